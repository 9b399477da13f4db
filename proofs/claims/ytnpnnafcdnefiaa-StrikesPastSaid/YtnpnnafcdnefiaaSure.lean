/- DiskSure, DiskBurns, DiskLast: their walks. -/
import Derived.Test.YtnpnnafcdnefiaaLaws21
set_option linter.unusedVariables false
set_option linter.unusedSimpArgs false

namespace Go.Proofs.Ytnpnnafcdnefiaa
open Go.X
theorem wr_sure {D : DS} (h : Live D) {i : Int} {s : List Int} : (wrD D i s).sure = D.sure := by rw [h.wr]; split <;> rfl
theorem wr_cur {D : DS} (h : Live D) {i : Int} {s : List Int} {j : Nat} : cur (wrD D i s) j = if inR D i = true ∧ i = (j : Int) then s else cur D j := by
  rw [h.wr]
  by_cases hr : inR D i = true
  · rw [if_pos hr, putD_cur]; simp [hr]
  · rw [if_neg hr]; simp [hr]
theorem sy_cur {D : DS} (h : Live D) {j : Nat} (hj : j < D.n) : cur (syD D) j = cur D j ∧ (syD D).sure.getD j [] = cur D j := by
  rw [h.sy]; exact ⟨flush_cur hj, merged_get hj⟩
theorem z512 : zeroIs Try.prog 61 [(512, iv .u8 (List.replicate 8 (List.replicate 64 0)).flatten)] := ⟨by kernel_rfl, Fit.mk (by rw [iv_len, flatten_len (s := 64) (fun l hl => by rw [List.eq_of_mem_replicate hl]; simp)]; simp) Fit.nil⟩
theorem rep8 : ∀ l ∈ List.replicate 8 (List.replicate 64 (0 : Int)), Sec l := fun l hl => by rw [List.eq_of_mem_replicate hl]; exact sec0
theorem set_sec {ss : List (List Int)} {i : Nat} {z : List Int} (h : ∀ l ∈ ss, Sec l) (hz : Sec z) : ∀ l ∈ ss.set i z, Sec l := fun l hl => by
  rcases List.mem_or_eq_of_mem_set hl with h1 | rfl
  · exact h l h1
  · exact hz
theorem get_sec {ss : List (List Int)} {i : Nat} (h : ∀ l ∈ ss, Sec l) (hi : i < ss.length) : Sec (ss.getD i []) := by
  rw [List.getD_eq_getElem?_getD, List.getElem?_eq_getElem hi]; exact h _ (List.getElem_mem hi)
section
variable {c : Cx} {S : Slots} {L : List (Nat × Blk)} {ty T : TypeId} {x : Operand}
theorem vldBs {b o q n i : Nat} {l : List Bool} (hs : SrW c.w0 1 (some ⟨b, o, none⟩) n (bv l)) (hO : b ∉ c.O := by simp) (ht : scB c.P T = true := by kernel_rfl) (hx : ev S x = some (.pointer (some ⟨b, q, none⟩)) := by exact rfl) (hq : q = o + i := by omega) (hi : i < l.length := by omega) : Val c S L (.load T x) ty (.bool (l.getD i false)) :=
  V_loadSr (fun w hp => hs.step hp (by rintro b' o' e hb; injection e with e; injection e with e1; subst e1; exact hO hb)) rfl ht hx hq (bv_get hi)
end
/-- The first ones are as they stand on a disk. -/
structure Was (D : DS) (i : Nat) (ss : List (List Int)) : Prop where
  len : ss.length = 8
  secs : ∀ l ∈ ss, Sec l
  get : ∀ j, j < i → ss.getD j [] = cur D j
theorem Was.start {D : DS} : Was D 0 (List.replicate 8 (List.replicate 64 0)) := ⟨by simp, rep8, fun j hj => by omega⟩
theorem Was.next {D : DS} {i : Nat} {ss : List (List Int)} (h : Was D i ss) (hi : i < 8) (hc : Sec (cur D i)) : Was D (i + 1) (ss.set i (cur D i)) := by
  obtain ⟨h1, h2, h3⟩ := h
  refine ⟨by simp [h1], set_sec h2 hc, fun j hj => ?_⟩
  rw [getD_set (by omega)]
  by_cases e : i = j
  · rw [if_pos e, e]
  · rw [if_neg e]; exact h3 j (by omega)

theorem diskSure_calls (w : World) (A : Option Addr) (n cap : Nat) (l : List Op21) (hs : SrW w 1 A (n * 4) (l.flatMap Op21.c)) (hl : l.length = n) (hok : ∀ o ∈ l, o.OK) (hc : n ≤ cap) (hn : n ≤ 9223372036854775807) (A2 : Option Addr) (n2 cap2 : Nat) (l2 : List Op21) (hs2 : SrW w 1 A2 (n2 * 4) (l2.flatMap Op21.c)) (hl2 : l2.length = n2) (hok2 : ∀ o ∈ l2, o.OK) (hc2 : n2 ≤ cap2) (hn2 : n2 ≤ 9223372036854775807) (kept : Int) (hkb : 0 ≤ kept ∧ kept ≤ 18446744073709551615) :
    Calls Try.prog 7 [.slice A n cap, .slice A2 n2 cap2, .int .u64 kept].toArray w fun e w' => e = .returned (.bool true) ∧ HP w w' [] [] := by
 refine calls_of_W Try.func7 rfl Try.ntmps7 rfl rfl (HP.refl w []) ?_
 refine sr ?_
 refine oas ?_
 refine nx ?_
 refine cp rfl (fun w hp => awake21_calls w) ?_
 refine oas ?_
 refine nx ?_
 refine cg rfl (fun w hp => new21_calls 8 (by omega) (by omega) w) (fun b26 h26 => ?_)
 refine omv ?_
 refine ov vex ?_
 refine ov vex ?_
 refine oas ?_
 refine oas ?_
 refine nq ?_
 refine W.seq ?_
 refine sr ?_
 refine omv ?_
 refine ov (V_eqlP (by kernel_rfl) rfl rfl) ?_
 refine omv ?_
 refine oy rfl rfl ?_
 refine omv ?_
 refine oy rfl rfl ?_
 refine ov (v2 V_neq) ?_
 refine ov (V_pick_f rfl rfl rfl) ?_
 refine omv ?_
 refine oy rfl (by decide) ?_
 refine omv ?_
 refine oy rfl (by decide) ?_
 refine ov vlenS ?_
 refine oy rfl (by decide) ?_
 refine ov (v2 V_gtr) ?_
 refine ov (V_pick_f rfl (by decide) rfl) ?_
 refine omv ?_
 refine WL.splitD rfl (fun g1 => ?_) (fun g1 => ?_)
 · refine on rfl (decide_eq_true g1) ?_
   refine on rfl (decide_eq_true g1) ?_
   refine on rfl (decide_eq_true g1) ?_
   refine ov (V_pick_td rfl g1 rfl) ?_
   refine nq ?_
   refine W.cond_true rfl rfl ?_
   refine sr ?_
   refine omv ?_
   refine omv ?_
   refine oy rfl rfl ?_
   refine omv ?_
   refine oy rfl rfl ?_
   refine ov (V_neqP (by kernel_rfl) rfl rfl) ?_
   refine ov (V_pick_t rfl rfl rfl) ?_
   refine oas ?_
   refine nq ?_
   refine W.ret ?_
   refine WQ.then_ret ?_
   refine WQ.ret1 Try.results7 (.tmp rfl) ?_
   intro w' hp; exact ⟨by first | rfl | (simp; done) | (simp [*]; done) | simp_all, hp.forget⟩
 · refine oy rfl (decide_eq_false g1) ?_
   refine omv ?_
   refine oy rfl (decide_eq_false g1) ?_
   refine ov vlenS ?_
   refine oy rfl (decide_eq_false g1) ?_
   refine ov (v2 V_gtr) ?_
   refine ov (V_pick_fd rfl g1 rfl) ?_
   refine nq ?_
   refine W.cond_dec rfl (fun g2 => ?_) (fun g2 => ?_)
   · refine W.seq ?_
     refine W.region ?_
     refine omv ?_
     refine omv ?_
     refine oy rfl rfl ?_
     refine omv ?_
     refine oy rfl rfl ?_
     refine ov (V_neqP (by kernel_rfl) rfl rfl) ?_
     refine ov (V_pick_t rfl rfl rfl) ?_
     refine oas ?_
     refine nq ?_
     refine W.ret ?_
     refine WQ.then_ret ?_
     refine WQ.ret1 Try.results7 (.tmp rfl) ?_
     intro w' hp; exact ⟨by first | rfl | (simp; done) | (simp [*]; done) | simp_all, hp.forget⟩
   · refine W.skip ?_
     refine WQ.then ?_
     refine W.seq ?_
     refine sr ?_
     refine oas ?_
     refine nq ?_
     refine W.block ?_
     -- LOOP 0
     refine W.pick (S' := [(10, _), (0, _), (1, _), (2, _), (6, _), (7, _), (8, _), (9, _), (44, _)]) [10, 0, 1, 2, 6, 7, 8, 9, 44] rfl ?_
     refine W.loopG (σ := Nat × DS) (fun ⟨i, D⟩ => i ≤ n ∧ DOK D ∧ Live D ∧ D.n = 8) (fun ⟨i, D⟩ => [(10, .int .i64 (i : Nat))]) (fun ⟨i, D⟩ => [(b26.d, .cells [(1, [.slice (some ⟨b26.s, 0, none⟩) D.n D.n]), (1, [.map (some b26.m)]), (1, [.int .i64 D.fuse]), (1, [.bool D.dead])] 101), (b26.s, .cells [(D.n * 64, iv .u8 D.sure.flatten)] 58), (b26.m, .obj (mapO .i64 (D.m.map sE) D.ck))]) [] (fun ⟨i, D⟩ => []) (fun ⟨i, D⟩ => n - i) (0, newD 8) rfl cov ⟨Nat.zero_le _, newD_ok (by omega) (by omega), newD_live, rfl⟩ ?_
     rintro ⟨i, D⟩ ⟨hi, hdk, hlv, hd8⟩; dsimp only at hi hdk hlv hd8 ⊢
     refine W.seq ?_
     refine sr ?_
     refine omv ?_
     refine omv ?_
     refine ov vlenS ?_
     refine ov (v2 V_lss) ?_
     refine nq ?_
     refine W.cond_dec rfl (fun g3 => ?_) (fun g3 => ?_)
     · refine W.skip ?_
       refine WQ.then ?_
       refine W.seq ?_
       refine W.block ?_
       have hoi := ops21_get hok (i := i) (by omega)
       obtain ⟨hoi1, hoi2, hoi3, hoi4⟩ := hoi
       have hofs := ofL_sec hoi2
       obtain ⟨bbA, ooA, rfl⟩ := hs.hasN sc
       refine dr (.q 0 (.q 1 (.q 2 (.q 3 (.q 4 (.q 5 (.q 6 (.q 7 (.q 8 (.q 9 (.q 10 (.l 11 (.l 12 (.done)))))))))))))) [] ?_
       refine dq rfl (V_move rfl) ?_
       refine dq rfl (V_move rfl) ?_
       refine dq rfl (V_move rfl) ?_
       refine dq rfl (viO 4) ?_
       refine dq rfl (vfa 1 1) ?_
       refine dq rfl (vldO 4 i 1 Op21.len hs) ?_
       refine dq rfl (V_move rfl) ?_
       refine dq rfl (V_move rfl) ?_
       refine dq rfl (viO 4) ?_
       refine dq rfl (vfa 2 1) ?_
       refine dq rfl (vldO 4 i 2 Op21.len hs) ?_
       refine WD.l ?_
       refine dcp rfl rfl (fun w hp => of21_calls (l.getD i default).b w) ?_
       refine WD.l ?_
       refine dcms rfl rfl (fun w hp => write21_calls b26 D hdk (l.getD i default).i (ofL (l.getD i default).b) hofs w (HP.here hp cov)) ?_
       refine WD.done ?_
       refine WQ.block_normal ?_
       refine WQ.then ?_
       refine W.region ?_
       refine omv ?_
       first | refine ov vaddN ?_ | refine ov vadd ?_
       refine oas ?_
       refine WL.nil ?_
       exact ag (i + 1, wrD D (l.getD i default).i (ofL (l.getD i default).b)) [10, 0, 1, 2, 6, 7, 8, 9, 44] (by (try dsimp only); exact ⟨by omega, wrD_ok hdk hofs, hlv.wrL, by rw [wr_n]; exact hd8⟩) (by (try dsimp only); omega) rfl cov
     · refine W.exit ?_
       refine WQ.then_exit ?_
       refine WQ.then_exit ?_
       refine WQ.block_hit ?_
       refine WQ.then ?_
       refine W.seq ?_
       obtain rfl : i = n := by omega
       refine W.region ?_
       refine omv ?_
       refine cms rfl (fun w hp => sync21_calls b26 D hdk  w (HP.here hp cov)) ?_
       refine oas ?_
       refine nq ?_
       refine W.seq ?_
       have hE1 := syD_ok hdk
       have hE2 := hlv.syL
       have hE3 : (syD D).n = 8 := by rw [sy_n]; exact hd8
       have hE4 : ∀ j, j < 8 → (syD D).sure.getD j [] = cur (syD D) j := fun j hj => by
         have := sy_cur hlv (j := j) (by omega)
         rw [this.1, this.2]
       rw [hlv.burn.1]
       generalize syD D = E at hE1 hE2 hE3 hE4 ⊢
       refine W.region ?_
       refine oal [(512, iv .u8 (List.replicate 8 (List.replicate 64 0)).flatten)] (fun b12 => ?_) (hz := z512)
       refine nq ?_
       refine W.seq ?_
       refine sr ?_
       refine oas ?_
       refine nq ?_
       refine W.block ?_
       -- LOOP 1
       refine W.pick (S' := [(13, _), (0, _), (1, _), (2, _), (6, _), (7, _), (8, _), (9, _), (10, _), (11, _), (12, _), (44, _), (53, _)]) [13, 0, 1, 2, 6, 7, 8, 9, 10, 11, 12, 44, 53] rfl ?_
       refine W.loopG (σ := Nat × List (List Int)) (fun ⟨i, ss⟩ => i ≤ 8 ∧ Was E i ss) (fun ⟨i, ss⟩ => [(13, .int .i64 (i : Nat))]) (fun ⟨i, ss⟩ => [(b12, .cells [(512, iv .u8 ss.flatten)] 61)]) [(b26.d, _), (b26.s, _), (b26.m, _)] (fun ⟨i, ss⟩ => []) (fun ⟨i, ss⟩ => 8 - i) (0, List.replicate 8 (List.replicate 64 0)) rfl cov ⟨Nat.zero_le _, Was.start⟩ ?_
       rintro ⟨i, ss⟩ ⟨hi, hws⟩; dsimp only at hi hws ⊢
       refine W.seq ?_
       refine sr ?_
       refine omv ?_
       refine ov (v2 V_lss) ?_
       refine nq ?_
       refine W.cond_dec rfl (fun g4 => ?_) (fun g4 => ?_)
       · refine W.skip ?_
         refine WQ.then ?_
         refine W.seq ?_
         refine W.block ?_
         refine W.seq ?_
         have hcs := DOK.cur hE1 (i := i) (by omega)
         have hcl := hcs.1
         have hrd := rd_in (D := E) (i := i) (by omega)
         have hrl : (rdS E (i : Int)).length = 64 := by rw [hrd.2]; exact hcl
         have hwl := hws.len
         have hw64 : ∀ l ∈ ss, l.length = 64 := fun l hl => (hws.secs l hl).1
         refine W.region ?_
         refine omv ?_
         refine omv ?_
         refine cms rfl (fun w hp => read21_calls b26 E hE1 (i : Int) w (HP.here hp cov)) ?_
         refine omv ?_
         refine ov vex ?_
         refine ov vex ?_
         refine oal [(64, List.replicate 64 (.int .u8 0))] (fun b14 => ?_)
         refine osta 64 ?_
         refine oas ?_
         refine nq ?_
         rw [hrd.2]
         clear hrl
         refine W.region ?_
         refine omv ?_
         refine ov (vlda 64) ?_
         refine ov (viASec 8 64) ?_
         refine ostSec 64 hw64 ?_
         refine WL.nil ?_
         refine WQ.block_normal ?_
         refine WQ.then ?_
         refine W.region ?_
         refine omv ?_
         first | refine ov vaddN ?_ | refine ov vadd ?_
         refine oas ?_
         refine WL.nil ?_
         exact ag (i + 1, ss.set i (cur E i)) [13, 0, 1, 2, 6, 7, 8, 9, 10, 11, 12, 44, 53] (by (try dsimp only); exact ⟨by omega, hws.next (by omega) hcs⟩) (by (try dsimp only); omega) rfl cov
       · refine W.exit ?_
         refine WQ.then_exit ?_
         refine WQ.then_exit ?_
         refine WQ.block_hit ?_
         refine WQ.then ?_
         refine W.seq ?_
         refine W.seq ?_
         obtain rfl : i = 8 := by omega
         obtain ⟨ws, hwz⟩ : ∃ ws, ws = ss := ⟨_, rfl⟩
         rw [← hwz] at hws ⊢
         clear hwz
         clear hi ss
         refine W.region ?_
         refine oas ?_
         refine nq ?_
         refine W.block ?_
         -- LOOP 2
         refine W.pick (S' := [(16, _), (0, _), (1, _), (2, _), (6, _), (7, _), (8, _), (9, _), (10, _), (11, _), (12, _), (13, _), (44, _), (53, _), (72, _)]) [16, 0, 1, 2, 6, 7, 8, 9, 10, 11, 12, 13, 44, 53, 72] rfl ?_
         refine W.loopG (σ := Nat × DS) (fun ⟨i, D⟩ => i ≤ n2 ∧ DOK D ∧ Live D ∧ D.n = 8 ∧ D.sure = E.sure) (fun ⟨i, D⟩ => [(16, .int .i64 (i : Nat))]) (fun ⟨i, D⟩ => [(b26.d, .cells [(1, [.slice (some ⟨b26.s, 0, none⟩) D.n D.n]), (1, [.map (some b26.m)]), (1, [.int .i64 D.fuse]), (1, [.bool D.dead])] 101), (b26.s, .cells [(D.n * 64, iv .u8 D.sure.flatten)] 58), (b26.m, .obj (mapO .i64 (D.m.map sE) D.ck))]) [(b12, _)] (fun ⟨i, D⟩ => []) (fun ⟨i, D⟩ => n2 - i) (0, E) rfl cov ⟨Nat.zero_le _, hE1, hE2, hE3, rfl⟩ ?_
         rintro ⟨i, D⟩ ⟨hi, hdk, hlv, hd8, hsu⟩; dsimp only at hi hdk hlv hd8 hsu ⊢
         refine W.seq ?_
         refine sr ?_
         refine omv ?_
         refine omv ?_
         refine ov vlenS ?_
         refine ov (v2 V_lss) ?_
         refine nq ?_
         refine W.cond_dec rfl (fun g5 => ?_) (fun g5 => ?_)
         · refine W.skip ?_
           refine WQ.then ?_
           refine W.seq ?_
           refine W.block ?_
           have hoi := ops21_get hok2 (i := i) (by omega)
           obtain ⟨hoi1, hoi2, hoi3, hoi4⟩ := hoi
           have hofs := ofL_sec hoi2
           obtain ⟨bbA2, ooA2, rfl⟩ := hs2.hasN sc
           refine dr (.q 0 (.q 1 (.q 2 (.q 3 (.q 4 (.q 5 (.q 6 (.q 7 (.q 8 (.q 9 (.q 10 (.l 11 (.l 12 (.done)))))))))))))) [] ?_
           refine dq rfl (V_move rfl) ?_
           refine dq rfl (V_move rfl) ?_
           refine dq rfl (V_move rfl) ?_
           refine dq rfl (viO 4) ?_
           refine dq rfl (vfa 1 1) ?_
           refine dq rfl (vldO 4 i 1 Op21.len hs2) ?_
           refine dq rfl (V_move rfl) ?_
           refine dq rfl (V_move rfl) ?_
           refine dq rfl (viO 4) ?_
           refine dq rfl (vfa 2 1) ?_
           refine dq rfl (vldO 4 i 2 Op21.len hs2) ?_
           refine WD.l ?_
           refine dcp rfl rfl (fun w hp => of21_calls (l2.getD i default).b w) ?_
           refine WD.l ?_
           refine dcms rfl rfl (fun w hp => write21_calls b26 D hdk (l2.getD i default).i (ofL (l2.getD i default).b) hofs w (HP.here hp cov)) ?_
           refine WD.done ?_
           refine WQ.block_normal ?_
           refine WQ.then ?_
           refine W.region ?_
           refine omv ?_
           first | refine ov vaddN ?_ | refine ov vadd ?_
           refine oas ?_
           refine WL.nil ?_
           exact ag (i + 1, wrD D (l2.getD i default).i (ofL (l2.getD i default).b)) [16, 0, 1, 2, 6, 7, 8, 9, 10, 11, 12, 13, 44, 53, 72] (by (try dsimp only); exact ⟨by omega, wrD_ok hdk hofs, hlv.wrL, by rw [wr_n]; exact hd8, by rw [wr_sure hlv]; exact hsu⟩) (by (try dsimp only); omega) rfl cov
         · refine W.exit ?_
           refine WQ.then_exit ?_
           refine WQ.then_exit ?_
           refine WQ.block_hit ?_
           refine WQ.then ?_
           refine W.seq ?_
           obtain rfl : i = n2 := by omega
           obtain ⟨F, hFz⟩ : ∃ F, F = D := ⟨_, rfl⟩
           rw [← hFz] at hdk hlv hd8 hsu ⊢
           have hF1 := hdk
           have hF3 := hd8
           refine W.region ?_
           refine oal [(512, iv .u8 (List.replicate 8 (List.replicate 64 0)).flatten)] (fun b17 => ?_) (hz := z512)
           refine nq ?_
           refine W.seq ?_
           refine sr ?_
           refine oas ?_
           refine nq ?_
           refine W.block ?_
           -- LOOP 3
           refine W.pick (S' := [(18, _), (0, _), (1, _), (2, _), (6, _), (7, _), (8, _), (9, _), (10, _), (11, _), (12, _), (13, _), (16, _), (17, _), (44, _), (53, _), (72, _), (87, _)]) [18, 0, 1, 2, 6, 7, 8, 9, 10, 11, 12, 13, 16, 17, 44, 53, 72, 87] rfl ?_
           refine W.loopG (σ := Nat × List (List Int)) (fun ⟨i, ss⟩ => i ≤ 8 ∧ Was F i ss) (fun ⟨i, ss⟩ => [(18, .int .i64 (i : Nat))]) (fun ⟨i, ss⟩ => [(b17, .cells [(512, iv .u8 ss.flatten)] 61)]) [(b26.d, _), (b26.s, _), (b26.m, _), (b12, _)] (fun ⟨i, ss⟩ => []) (fun ⟨i, ss⟩ => 8 - i) (0, List.replicate 8 (List.replicate 64 0)) rfl cov ⟨Nat.zero_le _, Was.start⟩ ?_
           rintro ⟨i, ss⟩ ⟨hi, hwn⟩; dsimp only at hi hwn ⊢
           refine W.seq ?_
           refine sr ?_
           refine omv ?_
           refine ov (v2 V_lss) ?_
           refine nq ?_
           refine W.cond_dec rfl (fun g6 => ?_) (fun g6 => ?_)
           · refine W.skip ?_
             refine WQ.then ?_
             refine W.seq ?_
             refine W.block ?_
             refine W.seq ?_
             have hcs := DOK.cur hF1 (i := i) (by omega)
             have hcl := hcs.1
             have hrd := rd_in (D := F) (i := i) (by omega)
             have hrl : (rdS F (i : Int)).length = 64 := by rw [hrd.2]; exact hcl
             have hwl := hwn.len
             have hw64 : ∀ l ∈ ss, l.length = 64 := fun l hl => (hwn.secs l hl).1
             refine W.region ?_
             refine omv ?_
             refine omv ?_
             refine cms rfl (fun w hp => read21_calls b26 F hF1 (i : Int) w (HP.here hp cov)) ?_
             refine omv ?_
             refine ov vex ?_
             refine ov vex ?_
             refine oal [(64, List.replicate 64 (.int .u8 0))] (fun b19 => ?_)
             refine osta 64 ?_
             refine oas ?_
             refine nq ?_
             rw [hrd.2]
             clear hrl
             refine W.region ?_
             refine omv ?_
             refine ov (vlda 64) ?_
             refine ov (viASec 8 64) ?_
             refine ostSec 64 hw64 ?_
             refine WL.nil ?_
             refine WQ.block_normal ?_
             refine WQ.then ?_
             refine W.region ?_
             refine omv ?_
             first | refine ov vaddN ?_ | refine ov vadd ?_
             refine oas ?_
             refine WL.nil ?_
             exact ag (i + 1, ss.set i (cur F i)) [18, 0, 1, 2, 6, 7, 8, 9, 10, 11, 12, 13, 16, 17, 44, 53, 72, 87] (by (try dsimp only); exact ⟨by omega, hwn.next (by omega) hcs⟩) (by (try dsimp only); omega) rfl cov
           · refine W.exit ?_
             refine WQ.then_exit ?_
             refine WQ.then_exit ?_
             refine WQ.block_hit ?_
             refine WQ.then ?_
             refine W.seq ?_
             obtain rfl : i = 8 := by omega
             obtain ⟨ns, hnz⟩ : ∃ ns, ns = ss := ⟨_, rfl⟩
             rw [← hnz] at hwn ⊢
             have hns := hwn
             have hC1 : DOK (crD F kept) := crD_ok hF1
             have hwl := hws.len
             refine W.region ?_
             refine omv ?_
             refine omv ?_
             refine cms rfl (fun w hp => crash21_calls b26 F hF1 kept hkb w (HP.here hp cov)) ?_
             refine nq ?_
             refine W.seq ?_
             refine W.seq ?_
             have hall : ∀ i, kept = 18446744073709551615 → cur (crD F kept) i = cur F i := fun i e => by rw [e, crash_all hF1]
             have hnon : ∀ i, kept = 0 → cur (crD F kept) i = F.sure.getD i [] := fun i e => by rw [e, crash_none hF1]
             have hone : ∀ i, cur (crD F kept) i = cur F i ∨ cur (crD F kept) i = F.sure.getD i [] := fun i => crash_one hF1
             have hZm : ((crD F kept)).m = [] := rfl
             have hZn : ((crD F kept)).n = 8 := hF3
             generalize (crD F kept) = Z at hC1 hall hnon hone hZm hZn ⊢
             refine W.region ?_
             refine oas ?_
             refine nq ?_
             refine W.block ?_
             -- LOOP 4
             refine W.pick (S' := [(21, _), (0, _), (1, _), (2, _), (6, _), (7, _), (8, _), (9, _), (10, _), (11, _), (12, _), (13, _), (16, _), (17, _), (18, _), (44, _), (53, _), (72, _), (87, _), (104, _)]) [21, 0, 1, 2, 6, 7, 8, 9, 10, 11, 12, 13, 16, 17, 18, 44, 53, 72, 87, 104] rfl ?_
             refine W.loopG (σ := Nat) (fun i => i ≤ 8) (fun i => [(21, .int .i64 (i : Nat))]) (fun i => []) [(b26.d, _), (b26.s, _), (b26.m, _), (b17, _), (b12, _)] (fun i => []) (fun i => 8 - i) 0 rfl cov (Nat.zero_le _) ?_
             rintro i hi
             refine W.seq ?_
             refine sr ?_
             refine omv ?_
             refine ov (v2 V_lss) ?_
             refine nq ?_
             refine W.cond_dec rfl (fun g7 => ?_) (fun g7 => ?_)
             · refine W.skip ?_
               refine WQ.then ?_
               refine W.seq ?_
               refine W.block ?_
               refine W.seq ?_
               have hi8 : i < 8 := by omega
               have hcs := hC1.cur (i := i) (by omega)
               have hcl := hcs.1
               have hrd := rd_in (D := Z) (i := i) (by omega)
               have hrl : (rdS Z (i : Int)).length = 64 := by rw [hrd.2]; exact hcl
               have hws64 : ∀ l ∈ ws, l.length = 64 := fun l hl => (hws.secs l hl).1
               have hwc := hws.get i hi8
               have hnc := hns.get i hi8
               have hnl := hns.len
               have hns64 : ∀ l ∈ ns, l.length = 64 := fun l hl => (hns.secs l hl).1
               have hone := hone i
               rw [hsu, hE4 i hi8, ← hwc, ← hnc] at hone
               have hall := hall i
               rw [← hnc] at hall
               have hnon := hnon i
               rw [hsu, hE4 i hi8, ← hwc] at hnon
               have hgw := (get_sec hws.secs (i := i) (by omega)).1
               have hgn := (get_sec hns.secs (i := i) (by omega)).1
               have hgw2 : (ws[i]?.getD []).length = 64 := by rw [← List.getD_eq_getElem?_getD]; exact hgw
               have hgn2 : (ns[i]?.getD []).length = 64 := by rw [← List.getD_eq_getElem?_getD]; exact hgn
               refine W.region ?_
               refine omv ?_
               refine omv ?_
               refine cms rfl (fun w hp => read21_calls b26 Z hC1 (i : Int) w (HP.here hp cov)) ?_
               refine omv ?_
               refine ov vex ?_
               refine ov vex ?_
               refine oal [(64, List.replicate 64 (.int .u8 0))] (fun b22 => ?_)
               refine osta 64 ?_
               refine oas ?_
               refine nq ?_
               refine W.seq ?_
               by_cases hk1 : kept = 18446744073709551615
               · by_cases hk0 : kept = 0
                 · by_cases hw : cur Z i = ws.getD i []
                   · rw [hrd.1]
                     simp only [hrd.2]
                     clear hrl
                     refine dr (.q 0 (.q 1 (.q 2 (.q 3 (.q 4 (.q 5 (.q 6 (.q 7 (.q 8 (.q 9 (.q 10 (.q 11 (.q 12 (.q 13 (.q 14 (.q 15 (.q 16 (.q 17 (.q 18 (.q 19 (.q 20 (.q 21 (.q 22 (.q 23 (.q 24 (.q 25 (.q 26 (.q 27 (.q 28 (.q 29 (.q 30 (.q 31 (.q 32 (.q 33 (.q 34 (.q 35 (.q 36 (.q 37 (.done))))))))))))))))))))))))))))))))))))))) [(b22, _), (b17, _), (b12, _)] ?_
                     refine dq rfl (V_move rfl) ?_
                     refine dq rfl (v2 V_neq) ?_
                     refine dq rfl (V_move rfl) ?_
                     refine dy rfl rfl (by simp) (vlda 64) ?_
                     refine dy rfl rfl (by simp) (V_move rfl) ?_
                     refine dy rfl rfl (by simp) (viASec 8 64) ?_
                     refine dy rfl rfl (by simp) (vldSec 64 hws64) ?_
                     refine dy rfl rfl (by simp) (vneqI 3 64 .u8) ?_
                     refine dy rfl rfl (by simp) (V_move rfl) ?_
                     refine dn rfl rfl (by simp [hw]) ?_
                     refine dn rfl rfl (by simp [hw]) ?_
                     refine dn rfl rfl (by simp [hw]) ?_
                     refine dn rfl rfl (by simp [hw]) ?_
                     refine dn rfl rfl (by simp [hw]) ?_
                     refine dy rfl rfl (by simp) (V_pick_f rfl (by simp [hw]) rfl) ?_
                     refine dq rfl (V_pick_f rfl (by simp) rfl) ?_
                     refine dq rfl (V_move rfl) ?_
                     refine dy rfl rfl rfl (V_move rfl) ?_
                     refine dy rfl rfl rfl (v2 V_eql) ?_
                     refine dy rfl rfl rfl (V_move rfl) ?_
                     refine dy rfl rfl (decide_eq_true hk1) (vlda 64) ?_
                     refine dy rfl rfl (decide_eq_true hk1) (V_move rfl) ?_
                     refine dy rfl rfl (decide_eq_true hk1) (viASec 8 64) ?_
                     refine dy rfl rfl (decide_eq_true hk1) (vldSec 64 hns64) ?_
                     refine dy rfl rfl (decide_eq_true hk1) (vneqI 3 64 .u8) ?_
                     refine dy rfl rfl rfl (V_pick_t rfl (decide_eq_true hk1) rfl) ?_
                     refine dq rfl (V_pick_f rfl rfl rfl) ?_
                     refine dq rfl (V_move rfl) ?_
                     refine dy rfl rfl (by simp [hall hk1]) (V_move rfl) ?_
                     refine dy rfl rfl (by simp [hall hk1]) (v2 V_eql) ?_
                     refine dy rfl rfl (by simp [hall hk1]) (V_move rfl) ?_
                     refine dy rfl rfl (decide_eq_true hk0) (vlda 64) ?_
                     refine dy rfl rfl (decide_eq_true hk0) (V_move rfl) ?_
                     refine dy rfl rfl (decide_eq_true hk0) (viASec 8 64) ?_
                     refine dy rfl rfl (decide_eq_true hk0) (vldSec 64 hws64) ?_
                     refine dy rfl rfl (decide_eq_true hk0) (vneqI 3 64 .u8) ?_
                     refine dy rfl rfl (by simp [hall hk1]) (V_pick_t rfl (decide_eq_true hk0) rfl) ?_
                     refine dq rfl (V_pick_f rfl (by simp [hall hk1]) rfl) ?_
                     refine WD.done ?_
                     refine WQ.then ?_
                     refine W.cond_false rfl (by simp [hnon hk0]) ?_
                     refine W.skip ?_
                     refine WQ.block_normal ?_
                     refine WQ.then ?_
                     refine W.region ?_
                     refine omv ?_
                     first | refine ov vaddN ?_ | refine ov vadd ?_
                     refine oas ?_
                     refine WL.nil ?_
                     exact ag (i + 1) [21, 0, 1, 2, 6, 7, 8, 9, 10, 11, 12, 13, 16, 17, 18, 44, 53, 72, 87, 104] (sc) (by (try dsimp only); omega) rfl cov
                   · rw [hrd.1]
                     simp only [hrd.2]
                     clear hrl
                     refine dr (.q 0 (.q 1 (.q 2 (.q 3 (.q 4 (.q 5 (.q 6 (.q 7 (.q 8 (.q 9 (.q 10 (.q 11 (.q 12 (.q 13 (.q 14 (.q 15 (.q 16 (.q 17 (.q 18 (.q 19 (.q 20 (.q 21 (.q 22 (.q 23 (.q 24 (.q 25 (.q 26 (.q 27 (.q 28 (.q 29 (.q 30 (.q 31 (.q 32 (.q 33 (.q 34 (.q 35 (.q 36 (.q 37 (.done))))))))))))))))))))))))))))))))))))))) [(b22, _), (b17, _), (b12, _)] ?_
                     refine dq rfl (V_move rfl) ?_
                     refine dq rfl (v2 V_neq) ?_
                     refine dq rfl (V_move rfl) ?_
                     refine dy rfl rfl (by simp) (vlda 64) ?_
                     refine dy rfl rfl (by simp) (V_move rfl) ?_
                     refine dy rfl rfl (by simp) (viASec 8 64) ?_
                     refine dy rfl rfl (by simp) (vldSec 64 hws64) ?_
                     refine dy rfl rfl (by simp) (vneqI 3 64 .u8) ?_
                     refine dy rfl rfl (by simp) (V_move rfl) ?_
                     refine dy rfl rfl (by simpa using hw) (vlda 64) ?_
                     refine dy rfl rfl (by simpa using hw) (V_move rfl) ?_
                     refine dy rfl rfl (by simpa using hw) (viASec 8 64) ?_
                     refine dy rfl rfl (by simpa using hw) (vldSec 64 hns64) ?_
                     refine dy rfl rfl (by simpa using hw) (vneqI 3 64 .u8) ?_
                     refine dy rfl rfl (by simp) (V_pick_t rfl (by simpa using hw) rfl) ?_
                     refine dq rfl (V_pick_f rfl (by simp) rfl) ?_
                     refine dq rfl (V_move rfl) ?_
                     refine dy rfl rfl (by simp [hone.resolve_right hw]) (V_move rfl) ?_
                     refine dy rfl rfl (by simp [hone.resolve_right hw]) (v2 V_eql) ?_
                     refine dy rfl rfl (by simp [hone.resolve_right hw]) (V_move rfl) ?_
                     refine dy rfl rfl (decide_eq_true hk1) (vlda 64) ?_
                     refine dy rfl rfl (decide_eq_true hk1) (V_move rfl) ?_
                     refine dy rfl rfl (decide_eq_true hk1) (viASec 8 64) ?_
                     refine dy rfl rfl (decide_eq_true hk1) (vldSec 64 hns64) ?_
                     refine dy rfl rfl (decide_eq_true hk1) (vneqI 3 64 .u8) ?_
                     refine dy rfl rfl (by simp [hone.resolve_right hw]) (V_pick_t rfl (decide_eq_true hk1) rfl) ?_
                     refine dq rfl (V_pick_f rfl (by simp [hone.resolve_right hw]) rfl) ?_
                     refine dq rfl (V_move rfl) ?_
                     refine dy rfl rfl (by simp [hall hk1]) (V_move rfl) ?_
                     refine dy rfl rfl (by simp [hall hk1]) (v2 V_eql) ?_
                     refine dy rfl rfl (by simp [hall hk1]) (V_move rfl) ?_
                     refine dy rfl rfl (decide_eq_true hk0) (vlda 64) ?_
                     refine dy rfl rfl (decide_eq_true hk0) (V_move rfl) ?_
                     refine dy rfl rfl (decide_eq_true hk0) (viASec 8 64) ?_
                     refine dy rfl rfl (decide_eq_true hk0) (vldSec 64 hws64) ?_
                     refine dy rfl rfl (decide_eq_true hk0) (vneqI 3 64 .u8) ?_
                     refine dy rfl rfl (by simp [hall hk1]) (V_pick_t rfl (decide_eq_true hk0) rfl) ?_
                     refine dq rfl (V_pick_f rfl (by simp [hall hk1]) rfl) ?_
                     refine WD.done ?_
                     refine WQ.then ?_
                     refine W.cond_false rfl (by simp [hnon hk0]) ?_
                     refine W.skip ?_
                     refine WQ.block_normal ?_
                     refine WQ.then ?_
                     refine W.region ?_
                     refine omv ?_
                     first | refine ov vaddN ?_ | refine ov vadd ?_
                     refine oas ?_
                     refine WL.nil ?_
                     exact ag (i + 1) [21, 0, 1, 2, 6, 7, 8, 9, 10, 11, 12, 13, 16, 17, 18, 44, 53, 72, 87, 104] (sc) (by (try dsimp only); omega) rfl cov
                 · by_cases hw : cur Z i = ws.getD i []
                   · rw [hrd.1]
                     simp only [hrd.2]
                     clear hrl
                     refine dr (.q 0 (.q 1 (.q 2 (.q 3 (.q 4 (.q 5 (.q 6 (.q 7 (.q 8 (.q 9 (.q 10 (.q 11 (.q 12 (.q 13 (.q 14 (.q 15 (.q 16 (.q 17 (.q 18 (.q 19 (.q 20 (.q 21 (.q 22 (.q 23 (.q 24 (.q 25 (.q 26 (.q 27 (.q 28 (.q 29 (.q 30 (.q 31 (.q 32 (.q 33 (.q 34 (.q 35 (.q 36 (.q 37 (.done))))))))))))))))))))))))))))))))))))))) [(b22, _), (b17, _), (b12, _)] ?_
                     refine dq rfl (V_move rfl) ?_
                     refine dq rfl (v2 V_neq) ?_
                     refine dq rfl (V_move rfl) ?_
                     refine dy rfl rfl (by simp) (vlda 64) ?_
                     refine dy rfl rfl (by simp) (V_move rfl) ?_
                     refine dy rfl rfl (by simp) (viASec 8 64) ?_
                     refine dy rfl rfl (by simp) (vldSec 64 hws64) ?_
                     refine dy rfl rfl (by simp) (vneqI 3 64 .u8) ?_
                     refine dy rfl rfl (by simp) (V_move rfl) ?_
                     refine dn rfl rfl (by simp [hw]) ?_
                     refine dn rfl rfl (by simp [hw]) ?_
                     refine dn rfl rfl (by simp [hw]) ?_
                     refine dn rfl rfl (by simp [hw]) ?_
                     refine dn rfl rfl (by simp [hw]) ?_
                     refine dy rfl rfl (by simp) (V_pick_f rfl (by simp [hw]) rfl) ?_
                     refine dq rfl (V_pick_f rfl (by simp) rfl) ?_
                     refine dq rfl (V_move rfl) ?_
                     refine dy rfl rfl rfl (V_move rfl) ?_
                     refine dy rfl rfl rfl (v2 V_eql) ?_
                     refine dy rfl rfl rfl (V_move rfl) ?_
                     refine dy rfl rfl (decide_eq_true hk1) (vlda 64) ?_
                     refine dy rfl rfl (decide_eq_true hk1) (V_move rfl) ?_
                     refine dy rfl rfl (decide_eq_true hk1) (viASec 8 64) ?_
                     refine dy rfl rfl (decide_eq_true hk1) (vldSec 64 hns64) ?_
                     refine dy rfl rfl (decide_eq_true hk1) (vneqI 3 64 .u8) ?_
                     refine dy rfl rfl rfl (V_pick_t rfl (decide_eq_true hk1) rfl) ?_
                     refine dq rfl (V_pick_f rfl rfl rfl) ?_
                     refine dq rfl (V_move rfl) ?_
                     refine dy rfl rfl (by simp [hall hk1]) (V_move rfl) ?_
                     refine dy rfl rfl (by simp [hall hk1]) (v2 V_eql) ?_
                     refine dy rfl rfl (by simp [hall hk1]) (V_move rfl) ?_
                     refine dn rfl rfl (decide_eq_false hk0) ?_
                     refine dn rfl rfl (decide_eq_false hk0) ?_
                     refine dn rfl rfl (decide_eq_false hk0) ?_
                     refine dn rfl rfl (decide_eq_false hk0) ?_
                     refine dn rfl rfl (decide_eq_false hk0) ?_
                     refine dy rfl rfl (by simp [hall hk1]) (V_pick_f rfl (decide_eq_false hk0) rfl) ?_
                     refine dq rfl (V_pick_f rfl (by simp [hall hk1]) rfl) ?_
                     refine WD.done ?_
                     refine WQ.then ?_
                     refine W.cond_false rfl rfl ?_
                     refine W.skip ?_
                     refine WQ.block_normal ?_
                     refine WQ.then ?_
                     refine W.region ?_
                     refine omv ?_
                     first | refine ov vaddN ?_ | refine ov vadd ?_
                     refine oas ?_
                     refine WL.nil ?_
                     exact ag (i + 1) [21, 0, 1, 2, 6, 7, 8, 9, 10, 11, 12, 13, 16, 17, 18, 44, 53, 72, 87, 104] (sc) (by (try dsimp only); omega) rfl cov
                   · rw [hrd.1]
                     simp only [hrd.2]
                     clear hrl
                     refine dr (.q 0 (.q 1 (.q 2 (.q 3 (.q 4 (.q 5 (.q 6 (.q 7 (.q 8 (.q 9 (.q 10 (.q 11 (.q 12 (.q 13 (.q 14 (.q 15 (.q 16 (.q 17 (.q 18 (.q 19 (.q 20 (.q 21 (.q 22 (.q 23 (.q 24 (.q 25 (.q 26 (.q 27 (.q 28 (.q 29 (.q 30 (.q 31 (.q 32 (.q 33 (.q 34 (.q 35 (.q 36 (.q 37 (.done))))))))))))))))))))))))))))))))))))))) [(b22, _), (b17, _), (b12, _)] ?_
                     refine dq rfl (V_move rfl) ?_
                     refine dq rfl (v2 V_neq) ?_
                     refine dq rfl (V_move rfl) ?_
                     refine dy rfl rfl (by simp) (vlda 64) ?_
                     refine dy rfl rfl (by simp) (V_move rfl) ?_
                     refine dy rfl rfl (by simp) (viASec 8 64) ?_
                     refine dy rfl rfl (by simp) (vldSec 64 hws64) ?_
                     refine dy rfl rfl (by simp) (vneqI 3 64 .u8) ?_
                     refine dy rfl rfl (by simp) (V_move rfl) ?_
                     refine dy rfl rfl (by simpa using hw) (vlda 64) ?_
                     refine dy rfl rfl (by simpa using hw) (V_move rfl) ?_
                     refine dy rfl rfl (by simpa using hw) (viASec 8 64) ?_
                     refine dy rfl rfl (by simpa using hw) (vldSec 64 hns64) ?_
                     refine dy rfl rfl (by simpa using hw) (vneqI 3 64 .u8) ?_
                     refine dy rfl rfl (by simp) (V_pick_t rfl (by simpa using hw) rfl) ?_
                     refine dq rfl (V_pick_f rfl (by simp) rfl) ?_
                     refine dq rfl (V_move rfl) ?_
                     refine dy rfl rfl (by simp [hone.resolve_right hw]) (V_move rfl) ?_
                     refine dy rfl rfl (by simp [hone.resolve_right hw]) (v2 V_eql) ?_
                     refine dy rfl rfl (by simp [hone.resolve_right hw]) (V_move rfl) ?_
                     refine dy rfl rfl (decide_eq_true hk1) (vlda 64) ?_
                     refine dy rfl rfl (decide_eq_true hk1) (V_move rfl) ?_
                     refine dy rfl rfl (decide_eq_true hk1) (viASec 8 64) ?_
                     refine dy rfl rfl (decide_eq_true hk1) (vldSec 64 hns64) ?_
                     refine dy rfl rfl (decide_eq_true hk1) (vneqI 3 64 .u8) ?_
                     refine dy rfl rfl (by simp [hone.resolve_right hw]) (V_pick_t rfl (decide_eq_true hk1) rfl) ?_
                     refine dq rfl (V_pick_f rfl (by simp [hone.resolve_right hw]) rfl) ?_
                     refine dq rfl (V_move rfl) ?_
                     refine dy rfl rfl (by simp [hall hk1]) (V_move rfl) ?_
                     refine dy rfl rfl (by simp [hall hk1]) (v2 V_eql) ?_
                     refine dy rfl rfl (by simp [hall hk1]) (V_move rfl) ?_
                     refine dn rfl rfl (decide_eq_false hk0) ?_
                     refine dn rfl rfl (decide_eq_false hk0) ?_
                     refine dn rfl rfl (decide_eq_false hk0) ?_
                     refine dn rfl rfl (decide_eq_false hk0) ?_
                     refine dn rfl rfl (decide_eq_false hk0) ?_
                     refine dy rfl rfl (by simp [hall hk1]) (V_pick_f rfl (decide_eq_false hk0) rfl) ?_
                     refine dq rfl (V_pick_f rfl (by simp [hall hk1]) rfl) ?_
                     refine WD.done ?_
                     refine WQ.then ?_
                     refine W.cond_false rfl rfl ?_
                     refine W.skip ?_
                     refine WQ.block_normal ?_
                     refine WQ.then ?_
                     refine W.region ?_
                     refine omv ?_
                     first | refine ov vaddN ?_ | refine ov vadd ?_
                     refine oas ?_
                     refine WL.nil ?_
                     exact ag (i + 1) [21, 0, 1, 2, 6, 7, 8, 9, 10, 11, 12, 13, 16, 17, 18, 44, 53, 72, 87, 104] (sc) (by (try dsimp only); omega) rfl cov
               · by_cases hk0 : kept = 0
                 · by_cases hw : cur Z i = ws.getD i []
                   · rw [hrd.1]
                     simp only [hrd.2]
                     clear hrl
                     refine dr (.q 0 (.q 1 (.q 2 (.q 3 (.q 4 (.q 5 (.q 6 (.q 7 (.q 8 (.q 9 (.q 10 (.q 11 (.q 12 (.q 13 (.q 14 (.q 15 (.q 16 (.q 17 (.q 18 (.q 19 (.q 20 (.q 21 (.q 22 (.q 23 (.q 24 (.q 25 (.q 26 (.q 27 (.q 28 (.q 29 (.q 30 (.q 31 (.q 32 (.q 33 (.q 34 (.q 35 (.q 36 (.q 37 (.done))))))))))))))))))))))))))))))))))))))) [(b22, _), (b17, _), (b12, _)] ?_
                     refine dq rfl (V_move rfl) ?_
                     refine dq rfl (v2 V_neq) ?_
                     refine dq rfl (V_move rfl) ?_
                     refine dy rfl rfl (by simp) (vlda 64) ?_
                     refine dy rfl rfl (by simp) (V_move rfl) ?_
                     refine dy rfl rfl (by simp) (viASec 8 64) ?_
                     refine dy rfl rfl (by simp) (vldSec 64 hws64) ?_
                     refine dy rfl rfl (by simp) (vneqI 3 64 .u8) ?_
                     refine dy rfl rfl (by simp) (V_move rfl) ?_
                     refine dn rfl rfl (by simp [hw]) ?_
                     refine dn rfl rfl (by simp [hw]) ?_
                     refine dn rfl rfl (by simp [hw]) ?_
                     refine dn rfl rfl (by simp [hw]) ?_
                     refine dn rfl rfl (by simp [hw]) ?_
                     refine dy rfl rfl (by simp) (V_pick_f rfl (by simp [hw]) rfl) ?_
                     refine dq rfl (V_pick_f rfl (by simp) rfl) ?_
                     refine dq rfl (V_move rfl) ?_
                     refine dy rfl rfl rfl (V_move rfl) ?_
                     refine dy rfl rfl rfl (v2 V_eql) ?_
                     refine dy rfl rfl rfl (V_move rfl) ?_
                     refine dn rfl rfl (decide_eq_false hk1) ?_
                     refine dn rfl rfl (decide_eq_false hk1) ?_
                     refine dn rfl rfl (decide_eq_false hk1) ?_
                     refine dn rfl rfl (decide_eq_false hk1) ?_
                     refine dn rfl rfl (decide_eq_false hk1) ?_
                     refine dy rfl rfl rfl (V_pick_f rfl (decide_eq_false hk1) rfl) ?_
                     refine dq rfl (V_pick_f rfl rfl rfl) ?_
                     refine dq rfl (V_move rfl) ?_
                     refine dy rfl rfl rfl (V_move rfl) ?_
                     refine dy rfl rfl rfl (v2 V_eql) ?_
                     refine dy rfl rfl rfl (V_move rfl) ?_
                     refine dy rfl rfl (decide_eq_true hk0) (vlda 64) ?_
                     refine dy rfl rfl (decide_eq_true hk0) (V_move rfl) ?_
                     refine dy rfl rfl (decide_eq_true hk0) (viASec 8 64) ?_
                     refine dy rfl rfl (decide_eq_true hk0) (vldSec 64 hws64) ?_
                     refine dy rfl rfl (decide_eq_true hk0) (vneqI 3 64 .u8) ?_
                     refine dy rfl rfl rfl (V_pick_t rfl (decide_eq_true hk0) rfl) ?_
                     refine dq rfl (V_pick_f rfl rfl rfl) ?_
                     refine WD.done ?_
                     refine WQ.then ?_
                     refine W.cond_false rfl (by simp [hnon hk0]) ?_
                     refine W.skip ?_
                     refine WQ.block_normal ?_
                     refine WQ.then ?_
                     refine W.region ?_
                     refine omv ?_
                     first | refine ov vaddN ?_ | refine ov vadd ?_
                     refine oas ?_
                     refine WL.nil ?_
                     exact ag (i + 1) [21, 0, 1, 2, 6, 7, 8, 9, 10, 11, 12, 13, 16, 17, 18, 44, 53, 72, 87, 104] (sc) (by (try dsimp only); omega) rfl cov
                   · rw [hrd.1]
                     simp only [hrd.2]
                     clear hrl
                     refine dr (.q 0 (.q 1 (.q 2 (.q 3 (.q 4 (.q 5 (.q 6 (.q 7 (.q 8 (.q 9 (.q 10 (.q 11 (.q 12 (.q 13 (.q 14 (.q 15 (.q 16 (.q 17 (.q 18 (.q 19 (.q 20 (.q 21 (.q 22 (.q 23 (.q 24 (.q 25 (.q 26 (.q 27 (.q 28 (.q 29 (.q 30 (.q 31 (.q 32 (.q 33 (.q 34 (.q 35 (.q 36 (.q 37 (.done))))))))))))))))))))))))))))))))))))))) [(b22, _), (b17, _), (b12, _)] ?_
                     refine dq rfl (V_move rfl) ?_
                     refine dq rfl (v2 V_neq) ?_
                     refine dq rfl (V_move rfl) ?_
                     refine dy rfl rfl (by simp) (vlda 64) ?_
                     refine dy rfl rfl (by simp) (V_move rfl) ?_
                     refine dy rfl rfl (by simp) (viASec 8 64) ?_
                     refine dy rfl rfl (by simp) (vldSec 64 hws64) ?_
                     refine dy rfl rfl (by simp) (vneqI 3 64 .u8) ?_
                     refine dy rfl rfl (by simp) (V_move rfl) ?_
                     refine dy rfl rfl (by simpa using hw) (vlda 64) ?_
                     refine dy rfl rfl (by simpa using hw) (V_move rfl) ?_
                     refine dy rfl rfl (by simpa using hw) (viASec 8 64) ?_
                     refine dy rfl rfl (by simpa using hw) (vldSec 64 hns64) ?_
                     refine dy rfl rfl (by simpa using hw) (vneqI 3 64 .u8) ?_
                     refine dy rfl rfl (by simp) (V_pick_t rfl (by simpa using hw) rfl) ?_
                     refine dq rfl (V_pick_f rfl (by simp) rfl) ?_
                     refine dq rfl (V_move rfl) ?_
                     refine dy rfl rfl (by simp [hone.resolve_right hw]) (V_move rfl) ?_
                     refine dy rfl rfl (by simp [hone.resolve_right hw]) (v2 V_eql) ?_
                     refine dy rfl rfl (by simp [hone.resolve_right hw]) (V_move rfl) ?_
                     refine dn rfl rfl (decide_eq_false hk1) ?_
                     refine dn rfl rfl (decide_eq_false hk1) ?_
                     refine dn rfl rfl (decide_eq_false hk1) ?_
                     refine dn rfl rfl (decide_eq_false hk1) ?_
                     refine dn rfl rfl (decide_eq_false hk1) ?_
                     refine dy rfl rfl (by simp [hone.resolve_right hw]) (V_pick_f rfl (decide_eq_false hk1) rfl) ?_
                     refine dq rfl (V_pick_f rfl (by simp [hone.resolve_right hw]) rfl) ?_
                     refine dq rfl (V_move rfl) ?_
                     refine dy rfl rfl rfl (V_move rfl) ?_
                     refine dy rfl rfl rfl (v2 V_eql) ?_
                     refine dy rfl rfl rfl (V_move rfl) ?_
                     refine dy rfl rfl (decide_eq_true hk0) (vlda 64) ?_
                     refine dy rfl rfl (decide_eq_true hk0) (V_move rfl) ?_
                     refine dy rfl rfl (decide_eq_true hk0) (viASec 8 64) ?_
                     refine dy rfl rfl (decide_eq_true hk0) (vldSec 64 hws64) ?_
                     refine dy rfl rfl (decide_eq_true hk0) (vneqI 3 64 .u8) ?_
                     refine dy rfl rfl rfl (V_pick_t rfl (decide_eq_true hk0) rfl) ?_
                     refine dq rfl (V_pick_f rfl rfl rfl) ?_
                     refine WD.done ?_
                     refine WQ.then ?_
                     refine W.cond_false rfl (by simp [hnon hk0]) ?_
                     refine W.skip ?_
                     refine WQ.block_normal ?_
                     refine WQ.then ?_
                     refine W.region ?_
                     refine omv ?_
                     first | refine ov vaddN ?_ | refine ov vadd ?_
                     refine oas ?_
                     refine WL.nil ?_
                     exact ag (i + 1) [21, 0, 1, 2, 6, 7, 8, 9, 10, 11, 12, 13, 16, 17, 18, 44, 53, 72, 87, 104] (sc) (by (try dsimp only); omega) rfl cov
                 · by_cases hw : cur Z i = ws.getD i []
                   · rw [hrd.1]
                     simp only [hrd.2]
                     clear hrl
                     refine dr (.q 0 (.q 1 (.q 2 (.q 3 (.q 4 (.q 5 (.q 6 (.q 7 (.q 8 (.q 9 (.q 10 (.q 11 (.q 12 (.q 13 (.q 14 (.q 15 (.q 16 (.q 17 (.q 18 (.q 19 (.q 20 (.q 21 (.q 22 (.q 23 (.q 24 (.q 25 (.q 26 (.q 27 (.q 28 (.q 29 (.q 30 (.q 31 (.q 32 (.q 33 (.q 34 (.q 35 (.q 36 (.q 37 (.done))))))))))))))))))))))))))))))))))))))) [(b22, _), (b17, _), (b12, _)] ?_
                     refine dq rfl (V_move rfl) ?_
                     refine dq rfl (v2 V_neq) ?_
                     refine dq rfl (V_move rfl) ?_
                     refine dy rfl rfl (by simp) (vlda 64) ?_
                     refine dy rfl rfl (by simp) (V_move rfl) ?_
                     refine dy rfl rfl (by simp) (viASec 8 64) ?_
                     refine dy rfl rfl (by simp) (vldSec 64 hws64) ?_
                     refine dy rfl rfl (by simp) (vneqI 3 64 .u8) ?_
                     refine dy rfl rfl (by simp) (V_move rfl) ?_
                     refine dn rfl rfl (by simp [hw]) ?_
                     refine dn rfl rfl (by simp [hw]) ?_
                     refine dn rfl rfl (by simp [hw]) ?_
                     refine dn rfl rfl (by simp [hw]) ?_
                     refine dn rfl rfl (by simp [hw]) ?_
                     refine dy rfl rfl (by simp) (V_pick_f rfl (by simp [hw]) rfl) ?_
                     refine dq rfl (V_pick_f rfl (by simp) rfl) ?_
                     refine dq rfl (V_move rfl) ?_
                     refine dy rfl rfl rfl (V_move rfl) ?_
                     refine dy rfl rfl rfl (v2 V_eql) ?_
                     refine dy rfl rfl rfl (V_move rfl) ?_
                     refine dn rfl rfl (decide_eq_false hk1) ?_
                     refine dn rfl rfl (decide_eq_false hk1) ?_
                     refine dn rfl rfl (decide_eq_false hk1) ?_
                     refine dn rfl rfl (decide_eq_false hk1) ?_
                     refine dn rfl rfl (decide_eq_false hk1) ?_
                     refine dy rfl rfl rfl (V_pick_f rfl (decide_eq_false hk1) rfl) ?_
                     refine dq rfl (V_pick_f rfl rfl rfl) ?_
                     refine dq rfl (V_move rfl) ?_
                     refine dy rfl rfl rfl (V_move rfl) ?_
                     refine dy rfl rfl rfl (v2 V_eql) ?_
                     refine dy rfl rfl rfl (V_move rfl) ?_
                     refine dn rfl rfl (decide_eq_false hk0) ?_
                     refine dn rfl rfl (decide_eq_false hk0) ?_
                     refine dn rfl rfl (decide_eq_false hk0) ?_
                     refine dn rfl rfl (decide_eq_false hk0) ?_
                     refine dn rfl rfl (decide_eq_false hk0) ?_
                     refine dy rfl rfl rfl (V_pick_f rfl (decide_eq_false hk0) rfl) ?_
                     refine dq rfl (V_pick_f rfl rfl rfl) ?_
                     refine WD.done ?_
                     refine WQ.then ?_
                     refine W.cond_false rfl rfl ?_
                     refine W.skip ?_
                     refine WQ.block_normal ?_
                     refine WQ.then ?_
                     refine W.region ?_
                     refine omv ?_
                     first | refine ov vaddN ?_ | refine ov vadd ?_
                     refine oas ?_
                     refine WL.nil ?_
                     exact ag (i + 1) [21, 0, 1, 2, 6, 7, 8, 9, 10, 11, 12, 13, 16, 17, 18, 44, 53, 72, 87, 104] (sc) (by (try dsimp only); omega) rfl cov
                   · rw [hrd.1]
                     simp only [hrd.2]
                     clear hrl
                     refine dr (.q 0 (.q 1 (.q 2 (.q 3 (.q 4 (.q 5 (.q 6 (.q 7 (.q 8 (.q 9 (.q 10 (.q 11 (.q 12 (.q 13 (.q 14 (.q 15 (.q 16 (.q 17 (.q 18 (.q 19 (.q 20 (.q 21 (.q 22 (.q 23 (.q 24 (.q 25 (.q 26 (.q 27 (.q 28 (.q 29 (.q 30 (.q 31 (.q 32 (.q 33 (.q 34 (.q 35 (.q 36 (.q 37 (.done))))))))))))))))))))))))))))))))))))))) [(b22, _), (b17, _), (b12, _)] ?_
                     refine dq rfl (V_move rfl) ?_
                     refine dq rfl (v2 V_neq) ?_
                     refine dq rfl (V_move rfl) ?_
                     refine dy rfl rfl (by simp) (vlda 64) ?_
                     refine dy rfl rfl (by simp) (V_move rfl) ?_
                     refine dy rfl rfl (by simp) (viASec 8 64) ?_
                     refine dy rfl rfl (by simp) (vldSec 64 hws64) ?_
                     refine dy rfl rfl (by simp) (vneqI 3 64 .u8) ?_
                     refine dy rfl rfl (by simp) (V_move rfl) ?_
                     refine dy rfl rfl (by simpa using hw) (vlda 64) ?_
                     refine dy rfl rfl (by simpa using hw) (V_move rfl) ?_
                     refine dy rfl rfl (by simpa using hw) (viASec 8 64) ?_
                     refine dy rfl rfl (by simpa using hw) (vldSec 64 hns64) ?_
                     refine dy rfl rfl (by simpa using hw) (vneqI 3 64 .u8) ?_
                     refine dy rfl rfl (by simp) (V_pick_t rfl (by simpa using hw) rfl) ?_
                     refine dq rfl (V_pick_f rfl (by simp) rfl) ?_
                     refine dq rfl (V_move rfl) ?_
                     refine dy rfl rfl (by simp [hone.resolve_right hw]) (V_move rfl) ?_
                     refine dy rfl rfl (by simp [hone.resolve_right hw]) (v2 V_eql) ?_
                     refine dy rfl rfl (by simp [hone.resolve_right hw]) (V_move rfl) ?_
                     refine dn rfl rfl (decide_eq_false hk1) ?_
                     refine dn rfl rfl (decide_eq_false hk1) ?_
                     refine dn rfl rfl (decide_eq_false hk1) ?_
                     refine dn rfl rfl (decide_eq_false hk1) ?_
                     refine dn rfl rfl (decide_eq_false hk1) ?_
                     refine dy rfl rfl (by simp [hone.resolve_right hw]) (V_pick_f rfl (decide_eq_false hk1) rfl) ?_
                     refine dq rfl (V_pick_f rfl (by simp [hone.resolve_right hw]) rfl) ?_
                     refine dq rfl (V_move rfl) ?_
                     refine dy rfl rfl rfl (V_move rfl) ?_
                     refine dy rfl rfl rfl (v2 V_eql) ?_
                     refine dy rfl rfl rfl (V_move rfl) ?_
                     refine dn rfl rfl (decide_eq_false hk0) ?_
                     refine dn rfl rfl (decide_eq_false hk0) ?_
                     refine dn rfl rfl (decide_eq_false hk0) ?_
                     refine dn rfl rfl (decide_eq_false hk0) ?_
                     refine dn rfl rfl (decide_eq_false hk0) ?_
                     refine dy rfl rfl rfl (V_pick_f rfl (decide_eq_false hk0) rfl) ?_
                     refine dq rfl (V_pick_f rfl rfl rfl) ?_
                     refine WD.done ?_
                     refine WQ.then ?_
                     refine W.cond_false rfl rfl ?_
                     refine W.skip ?_
                     refine WQ.block_normal ?_
                     refine WQ.then ?_
                     refine W.region ?_
                     refine omv ?_
                     first | refine ov vaddN ?_ | refine ov vadd ?_
                     refine oas ?_
                     refine WL.nil ?_
                     exact ag (i + 1) [21, 0, 1, 2, 6, 7, 8, 9, 10, 11, 12, 13, 16, 17, 18, 44, 53, 72, 87, 104] (sc) (by (try dsimp only); omega) rfl cov
             · refine W.exit ?_
               refine WQ.then_exit ?_
               refine WQ.then_exit ?_
               refine WQ.block_hit ?_
               refine WQ.then ?_
               refine sr ?_
               refine omv ?_
               refine omv ?_
               refine oy rfl rfl ?_
               refine omv ?_
               refine oy rfl rfl ?_
               refine ov (v2 V_eql) ?_
               refine ov (V_pick_t rfl rfl rfl) ?_
               refine omv ?_
               refine oy rfl rfl ?_
               refine omv ?_
               refine oy rfl rfl ?_
               refine cgX rfl (fun w hp => pend21_calls b26 Z hC1  w (HP.here hp cov)) (fun b174 h174 => ?_)
               refine oy rfl rfl ?_
               refine ov vlenS ?_
               refine oy rfl rfl ?_
               refine ov (v2 V_eql) ?_
               refine ov (V_pick_t rfl rfl rfl) ?_
               refine oas ?_
               refine nq ?_
               refine W.ret ?_
               refine WQ.ret1 Try.results7 (.tmp rfl) ?_
               intro w' hp; exact ⟨by first | rfl | (simp; done) | (simp [*]; done) | simp_all, hp.forget⟩

theorem burn_at {D : DS} {i : Nat} {k : Int} (h : D.fuse = k - i ∧ D.dead = false) (hi : (i : Int) ≤ k) : burnE D = if (i : Int) < k then 0 else 13 := by
  by_cases hk : (i : Int) < k
  · rw [if_pos hk]; exact burnE_f h.2 (by omega)
  · rw [if_neg hk]; exact burnE_t (.inr (by omega))
theorem burn_next {D E : DS} {i n : Nat} {k : Int} (hi : i ≤ n) (hin : i + 1 ≤ n) (hb : E.fuse = (burnD D).fuse ∧ E.dead = (burnD D).dead) (hok : DOK E) (hn : E.n = 4) (h1 : burnE D = if (i : Int) < k then 0 else 13) (h2 : (i : Int) ≤ k → D.fuse = k - i ∧ D.dead = false) (h3 : k < i → D.dead = true) :
    i + 1 ≤ n ∧ DOK E ∧ E.n = 4 ∧ burnE E = (if ((i + 1 : Nat) : Int) < k then (0 : Int) else 13) ∧ (((i + 1 : Nat) : Int) ≤ k → E.fuse = k - ((i + 1 : Nat) : Int) ∧ E.dead = false) ∧ (k < ((i + 1 : Nat) : Int) → E.dead = true) := by
  by_cases hk : (i : Int) < k
  · obtain ⟨e1, e2⟩ := h2 (by omega)
    obtain ⟨_, e3⟩ := burn_f e2 (by omega)
    rw [e3] at hb
    have hf : E.fuse = k - ((i + 1 : Nat) : Int) ∧ E.dead = false := ⟨by rw [hb.1]; show max (D.fuse - 1) (-1) = _; omega, hb.2.trans e2⟩
    exact ⟨hin, hok, hn, burn_at hf (by omega), fun _ => hf, fun h => by omega⟩
  · have hd : D.dead = true ∨ D.fuse = 0 := by
      by_cases hk2 : k < (i : Int)
      · exact .inl (h3 hk2)
      · exact .inr (by have := (h2 (by omega)).1; omega)
    obtain ⟨_, e3⟩ := burn_t hd
    rw [e3] at hb
    have hdd : E.dead = true := hb.2
    exact ⟨hin, hok, hn, by rw [if_neg (by omega)]; exact burnE_t (.inl hdd), fun h => by omega, fun _ => hdd⟩
theorem sy_burn {D : DS} : (syD D).fuse = (burnD D).fuse ∧ (syD D).dead = (burnD D).dead := by unfold syD; split <;> exact ⟨rfl, rfl⟩
theorem wr_burn {D : DS} {i : Int} {s : List Int} (h : inR D i = true) : (wrD D i s).fuse = (burnD D).fuse ∧ (wrD D i s).dead = (burnD D).dead := by unfold wrD; rw [if_pos h]; split <;> exact ⟨rfl, rfl⟩

theorem diskBurns_calls (k : Int) (A : Option Addr) (n cap : Nat) (l : List Bool) (w : World) (hs : SrW w 1 A n (bv l)) (hl : l.length = n) (hc : n ≤ cap) (hkb : -9223372036854775808 ≤ k ∧ k ≤ 9223372036854775807) :
    Calls Try.prog 10 [.int .i64 k, .slice A n cap].toArray w fun e w' => e = .returned (.bool true) ∧ HP w w' [] [] := by
 refine calls_of_W Try.func10 rfl Try.ntmps10 rfl rfl (HP.refl w []) ?_
 refine sr ?_
 refine oas ?_
 refine nx ?_
 refine cp rfl (fun w hp => awake21_calls w) ?_
 refine oas ?_
 refine nx ?_
 refine cg rfl (fun w hp => new21_calls 4 (by omega) (by omega) w) (fun b12 h12 => ?_)
 refine omv ?_
 refine ov vex ?_
 refine ov vex ?_
 refine oas ?_
 refine oas ?_
 refine nq ?_
 refine W.seq ?_
 refine sr ?_
 refine omv ?_
 refine ov (V_eqlP (by kernel_rfl) rfl rfl) ?_
 refine omv ?_
 refine oy rfl rfl ?_
 refine omv ?_
 refine oy rfl rfl ?_
 refine ov (v2 V_neq) ?_
 refine ov (V_pick_f rfl rfl rfl) ?_
 refine omv ?_
 refine oy rfl (by decide) ?_
 refine omv ?_
 refine oy rfl (by decide) ?_
 refine ov (v2 V_lss) ?_
 refine ov (V_pick_f rfl (by decide) rfl) ?_
 refine omv ?_
 refine WL.splitD rfl (fun g1 => ?_) (fun g1 => ?_)
 · refine on rfl (decide_eq_true g1) ?_
   refine on rfl (decide_eq_true g1) ?_
   refine on rfl (decide_eq_true g1) ?_
   refine ov (V_pick_td rfl g1 rfl) ?_
   refine nq ?_
   refine W.cond_true rfl rfl ?_
   refine sr ?_
   refine omv ?_
   refine omv ?_
   refine oy rfl rfl ?_
   refine omv ?_
   refine oy rfl rfl ?_
   refine ov (V_neqP (by kernel_rfl) rfl rfl) ?_
   refine ov (V_pick_t rfl rfl rfl) ?_
   refine oas ?_
   refine nq ?_
   refine W.ret ?_
   refine WQ.then_ret ?_
   refine WQ.ret1 Try.results10 (.tmp rfl) ?_
   intro w' hp; exact ⟨by first | rfl | (simp; done) | (simp [*]; done) | simp_all, hp.forget⟩
 · refine oy rfl (decide_eq_false g1) ?_
   refine omv ?_
   refine oy rfl (decide_eq_false g1) ?_
   refine ov vlenS ?_
   refine oy rfl (decide_eq_false g1) ?_
   refine ov (v2 V_gtr) ?_
   refine ov (V_pick_fd rfl g1 rfl) ?_
   refine nq ?_
   refine W.cond_dec rfl (fun g2 => ?_) (fun g2 => ?_)
   · refine W.seq ?_
     refine W.region ?_
     refine omv ?_
     refine omv ?_
     refine oy rfl rfl ?_
     refine omv ?_
     refine oy rfl rfl ?_
     refine ov (V_neqP (by kernel_rfl) rfl rfl) ?_
     refine ov (V_pick_t rfl rfl rfl) ?_
     refine oas ?_
     refine nq ?_
     refine W.ret ?_
     refine WQ.then_ret ?_
     refine WQ.ret1 Try.results10 (.tmp rfl) ?_
     intro w' hp; exact ⟨by first | rfl | (simp; done) | (simp [*]; done) | simp_all, hp.forget⟩
   · refine W.skip ?_
     refine WQ.then ?_
     refine sr ?_
     refine omv ?_
     refine omv ?_
     refine cms rfl (fun w hp => fuse21_calls b12 (newD 4) (newD_ok (by omega) (by omega)) k hkb w (HP.here hp cov)) ?_
     refine nq ?_
     refine W.seq ?_
     refine sr ?_
     refine oas ?_
     refine nq ?_
     refine W.block ?_
     -- LOOP 0
     refine W.pick (S' := [(8, _), (0, _), (1, _), (4, _), (5, _), (6, _), (7, _), (29, _)]) [8, 0, 1, 4, 5, 6, 7, 29] rfl ?_
     refine W.loopG (σ := Nat × DS) (fun ⟨i, D⟩ => i ≤ n ∧ DOK D ∧ D.n = 4 ∧ burnE D = (if (i : Int) < k then (0 : Int) else 13) ∧ ((i : Int) ≤ k → D.fuse = k - i ∧ D.dead = false) ∧ (k < i → D.dead = true)) (fun ⟨i, D⟩ => [(8, .int .i64 (i : Nat))]) (fun ⟨i, D⟩ => [(b12.d, .cells [(1, [.slice (some ⟨b12.s, 0, none⟩) D.n D.n]), (1, [.map (some b12.m)]), (1, [.int .i64 D.fuse]), (1, [.bool D.dead])] 101), (b12.s, .cells [(D.n * 64, iv .u8 D.sure.flatten)] 58), (b12.m, .obj (mapO .i64 (D.m.map sE) D.ck))]) [] (fun ⟨i, D⟩ => []) (fun ⟨i, D⟩ => n - i) (0, fuD (newD 4) k) rfl cov ⟨Nat.zero_le _, fuD_ok (newD_ok (by omega) (by omega)) hkb.2, rfl, burn_at (by show max k (-1) = k - (0 : Nat) ∧ _; exact ⟨by omega, rfl⟩) (by omega), fun _ => ⟨by show max k (-1) = k - (0 : Nat); omega, rfl⟩, fun h => by omega⟩ ?_
     rintro ⟨i, D⟩ ⟨hi, hdk, hd4, hbe, hbf, hbd⟩; dsimp only at hi hdk hd4 hbe hbf hbd ⊢
     refine W.seq ?_
     refine sr ?_
     refine omv ?_
     refine omv ?_
     refine ov vlenS ?_
     refine ov (v2 V_lss) ?_
     refine nq ?_
     refine W.cond_dec rfl (fun g3 => ?_) (fun g3 => ?_)
     · refine W.skip ?_
       refine WQ.then ?_
       refine W.seq ?_
       refine W.block ?_
       refine sr ?_
       refine oas ?_
       refine nq ?_
       refine W.seq ?_
       refine W.seq ?_
       have hib : (i : Int) < 256 := by omega
       have hofs := ofL_sec (b := (i : Int)) (by omega)
       have hir : inR D ((i : Int) % 4) = true := by simp only [inR, Bool.and_eq_true, decide_eq_true_eq]; omega
       have hwe : wrE D ((i : Int) % 4) = burnE D := if_pos hir
       refine W.region ?_
       refine omv ?_
       refine omv ?_
       obtain ⟨bbA, ooA, rfl⟩ := hs.hasN sc
       refine ov (viS1) ?_
       refine ov (vldBs (i := i) hs) ?_
       refine nq ?_
       refine W.cond rfl (fun g4 => ?_) (fun g4 => ?_)
       · refine W.region ?_
         refine omv ?_
         refine cms rfl (fun w hp => sync21_calls b12 D hdk  w (HP.here hp cov)) ?_
         refine oas ?_
         refine nq ?_
         refine W.seq ?_
         by_cases hik : (i : Int) < k
         · try rw [hwe]
           rw [hbe]
           refine W.region ?_
           refine omv ?_
           refine ov (v2 V_eql) ?_
           refine omv ?_
           refine omv ?_
           refine ov (v2 V_lss) ?_
           refine ov (V_neqB (by kernel_rfl) rfl rfl) ?_
           refine omv ?_
           refine oy rfl (by rw [if_pos hik]; simp [hik]) ?_
           refine omv ?_
           refine oy rfl (by rw [if_pos hik]; simp [hik]) ?_
           refine ov (v2 V_neq) ?_
           refine oy rfl (by rw [if_pos hik]; simp [hik]) ?_
           refine omv ?_
           refine on rfl (decide_eq_false (by rw [if_pos hik]; decide)) ?_
           refine on rfl (decide_eq_false (by rw [if_pos hik]; decide)) ?_
           refine oy rfl (by rw [if_pos hik]; simp [hik]) ?_
           refine ov (V_pick_f rfl (decide_eq_false (by rw [if_pos hik]; decide)) rfl) ?_
           refine ov (V_pick_f rfl (by rw [if_pos hik]; simp [hik]) rfl) ?_
           refine nq ?_
           refine W.cond_false rfl rfl ?_
           refine W.skip ?_
           refine WQ.block_normal ?_
           refine WQ.then ?_
           refine W.region ?_
           refine omv ?_
           first | refine ov vaddN ?_ | refine ov vadd ?_
           refine oas ?_
           refine WL.nil ?_
           exact ag (i + 1, syD D) [8, 0, 1, 4, 5, 6, 7, 29] (by (try dsimp only); exact burn_next hi (by omega) (sy_burn (D := D)) (syD_ok hdk) (by rw [sy_n]; exact hd4) hbe hbf hbd) (by (try dsimp only); omega) rfl cov
         · try rw [hwe]
           rw [hbe]
           refine W.region ?_
           refine omv ?_
           refine ov (v2 V_eql) ?_
           refine omv ?_
           refine omv ?_
           refine ov (v2 V_lss) ?_
           refine ov (V_neqB (by kernel_rfl) rfl rfl) ?_
           refine omv ?_
           refine oy rfl (by rw [if_neg hik]; simp [hik]) ?_
           refine omv ?_
           refine oy rfl (by rw [if_neg hik]; simp [hik]) ?_
           refine ov (v2 V_neq) ?_
           refine oy rfl (by rw [if_neg hik]; simp [hik]) ?_
           refine omv ?_
           refine oy rfl (decide_eq_true (by rw [if_neg hik]; decide)) ?_
           refine omv ?_
           refine oy rfl (decide_eq_true (by rw [if_neg hik]; decide)) ?_
           refine ov (v2 V_neq) ?_
           refine oy rfl (by rw [if_neg hik]; simp [hik]) ?_
           refine ov (V_pick_t rfl (decide_eq_true (by rw [if_neg hik]; decide)) rfl) ?_
           refine ov (V_pick_f rfl (by rw [if_neg hik]; simp [hik]) rfl) ?_
           refine nq ?_
           refine W.cond_false rfl (decide_eq_false (by rw [if_neg hik]; decide)) ?_
           refine W.skip ?_
           refine WQ.block_normal ?_
           refine WQ.then ?_
           refine W.region ?_
           refine omv ?_
           first | refine ov vaddN ?_ | refine ov vadd ?_
           refine oas ?_
           refine WL.nil ?_
           exact ag (i + 1, syD D) [8, 0, 1, 4, 5, 6, 7, 29] (by (try dsimp only); exact burn_next hi (by omega) (sy_burn (D := D)) (syD_ok hdk) (by rw [sy_n]; exact hd4) hbe hbf hbd) (by (try dsimp only); omega) rfl cov
       · refine W.region ?_
         refine omv ?_
         refine omv ?_
         first | refine ov vrem ?_ | refine ov (V_rem rfl rfl (by omega)) ?_
         refine omv ?_
         first | refine ov (vcvN .u8) ?_ | refine ov (vcv .u8) ?_
         refine cp rfl (fun w hp => of21_calls (i : Int) w) ?_
         refine cms rfl (fun w hp => write21_calls b12 D hdk ((i : Int) % 4) (ofL (i : Int)) hofs w (HP.here hp cov)) ?_
         refine oas ?_
         refine nq ?_
         refine W.seq ?_
         by_cases hik : (i : Int) < k
         · try rw [hwe]
           rw [hbe]
           refine W.region ?_
           refine omv ?_
           refine ov (v2 V_eql) ?_
           refine omv ?_
           refine omv ?_
           refine ov (v2 V_lss) ?_
           refine ov (V_neqB (by kernel_rfl) rfl rfl) ?_
           refine omv ?_
           refine oy rfl (by rw [if_pos hik]; simp [hik]) ?_
           refine omv ?_
           refine oy rfl (by rw [if_pos hik]; simp [hik]) ?_
           refine ov (v2 V_neq) ?_
           refine oy rfl (by rw [if_pos hik]; simp [hik]) ?_
           refine omv ?_
           refine on rfl (decide_eq_false (by rw [if_pos hik]; decide)) ?_
           refine on rfl (decide_eq_false (by rw [if_pos hik]; decide)) ?_
           refine oy rfl (by rw [if_pos hik]; simp [hik]) ?_
           refine ov (V_pick_f rfl (decide_eq_false (by rw [if_pos hik]; decide)) rfl) ?_
           refine ov (V_pick_f rfl (by rw [if_pos hik]; simp [hik]) rfl) ?_
           refine nq ?_
           refine W.cond_false rfl rfl ?_
           refine W.skip ?_
           refine WQ.block_normal ?_
           refine WQ.then ?_
           refine W.region ?_
           refine omv ?_
           first | refine ov vaddN ?_ | refine ov vadd ?_
           refine oas ?_
           refine WL.nil ?_
           exact ag (i + 1, wrD D ((i : Int) % 4) (ofL (i : Int))) [8, 0, 1, 4, 5, 6, 7, 29] (by (try dsimp only); exact burn_next hi (by omega) (wr_burn (D := D) hir) (wrD_ok hdk hofs) (by rw [wr_n]; exact hd4) hbe hbf hbd) (by (try dsimp only); omega) rfl cov
         · try rw [hwe]
           rw [hbe]
           refine W.region ?_
           refine omv ?_
           refine ov (v2 V_eql) ?_
           refine omv ?_
           refine omv ?_
           refine ov (v2 V_lss) ?_
           refine ov (V_neqB (by kernel_rfl) rfl rfl) ?_
           refine omv ?_
           refine oy rfl (by rw [if_neg hik]; simp [hik]) ?_
           refine omv ?_
           refine oy rfl (by rw [if_neg hik]; simp [hik]) ?_
           refine ov (v2 V_neq) ?_
           refine oy rfl (by rw [if_neg hik]; simp [hik]) ?_
           refine omv ?_
           refine oy rfl (decide_eq_true (by rw [if_neg hik]; decide)) ?_
           refine omv ?_
           refine oy rfl (decide_eq_true (by rw [if_neg hik]; decide)) ?_
           refine ov (v2 V_neq) ?_
           refine oy rfl (by rw [if_neg hik]; simp [hik]) ?_
           refine ov (V_pick_t rfl (decide_eq_true (by rw [if_neg hik]; decide)) rfl) ?_
           refine ov (V_pick_f rfl (by rw [if_neg hik]; simp [hik]) rfl) ?_
           refine nq ?_
           refine W.cond_false rfl (decide_eq_false (by rw [if_neg hik]; decide)) ?_
           refine W.skip ?_
           refine WQ.block_normal ?_
           refine WQ.then ?_
           refine W.region ?_
           refine omv ?_
           first | refine ov vaddN ?_ | refine ov vadd ?_
           refine oas ?_
           refine WL.nil ?_
           exact ag (i + 1, wrD D ((i : Int) % 4) (ofL (i : Int))) [8, 0, 1, 4, 5, 6, 7, 29] (by (try dsimp only); exact burn_next hi (by omega) (wr_burn (D := D) hir) (wrD_ok hdk hofs) (by rw [wr_n]; exact hd4) hbe hbf hbd) (by (try dsimp only); omega) rfl cov
     · refine W.exit ?_
       refine WQ.then_exit ?_
       refine WQ.then_exit ?_
       refine WQ.block_hit ?_
       refine WQ.then ?_
       refine sr ?_
       refine omv ?_
       refine cms rfl (fun w hp => crash21_calls b12 D hdk 0 (by omega) w (HP.here hp cov)) ?_
       refine nq ?_
       refine W.seq ?_
       have hcl : Live (crD D 0) := Live.cr
       have hcn : (crD D 0).n = 4 := hd4
       have hcE : wrE (crD D 0) 0 = 0 := by rw [hcl.wrE, if_pos (by simp [inR, hcn])]
       have hsE : burnE (wrD (crD D 0) 0 (ofL 1)) = 0 := hcl.wrL.burn.1
       refine W.region ?_
       refine omv ?_
       refine omv ?_
       refine oy rfl rfl ?_
       refine omv ?_
       refine oy rfl rfl ?_
       refine cp rfl (fun w hp => of21_calls 1 w) ?_
       refine oy rfl rfl ?_
       refine cms rfl (fun w hp => write21_calls b12 (crD D 0) (crD_ok hdk) 0 (ofL 1) (ofL_sec (by omega)) w (HP.here hp cov)) ?_
       refine oy rfl rfl ?_
       refine ov (v2 V_eql) ?_
       refine ov (V_pick_t rfl rfl rfl) ?_
       refine omv ?_
       refine oy rfl (decide_eq_true hcE) ?_
       refine omv ?_
       refine oy rfl (decide_eq_true hcE) ?_
       refine cms rfl (fun w hp => sync21_calls b12 (wrD (crD D 0) 0 (ofL 1)) (wrD_ok (crD_ok hdk) (ofL_sec (by omega)))  w (HP.here hp cov)) ?_
       refine oy rfl (decide_eq_true hcE) ?_
       refine ov (v2 V_eql) ?_
       refine ov (V_pick_t rfl (decide_eq_true hcE) rfl) ?_
       refine oas ?_
       refine nq ?_
       refine W.ret ?_
       refine WQ.ret1 Try.results10 (.tmp rfl) ?_
       intro w' hp; exact ⟨by first | rfl | (simp; done) | (simp [*]; done) | simp_all, hp.forget⟩

theorem was_new : Was (newD 8) 8 (List.replicate 8 (List.replicate 64 0)) := ⟨by simp, rep8, fun j hj => by
  show (List.replicate 8 (List.replicate 64 (0 : Int))).getD j [] = (List.replicate 8 (List.replicate 64 (0 : Int))).getD j []
  rfl⟩
theorem was_sy {D : DS} (hl : Live D) (hn : D.n = 8) {ws : List (List Int)} (h : Was D 8 ws) : Was (syD D) 8 ws := ⟨h.len, h.secs, fun j hj => by rw [h.get j hj, (sy_cur hl (by omega)).1]⟩
theorem was_wr {D : DS} (hl : Live D) (hn : D.n = 8) {ws : List (List Int)} (h : Was D 8 ws) {i : Int} {s : List Int} (hs : Sec s) (hi : 0 ≤ i ∧ i < 8) : Was (wrD D i s) 8 (ws.set i.toNat s) := by
  have hlen := h.len
  refine ⟨by simp [hlen], set_sec h.secs hs, fun j hj => ?_⟩
  rw [getD_set (by omega), wr_cur hl, h.get j hj]
  have hr : inR D i = true := by simp only [inR, Bool.and_eq_true, decide_eq_true_eq]; omega
  by_cases e : i = (j : Int)
  · rw [if_pos (by omega), if_pos ⟨hr, e⟩]
  · rw [if_neg (by omega), if_neg (by rintro ⟨_, h2⟩; exact e h2)]
theorem was_wrn {D : DS} (hl : Live D) (hn : D.n = 8) {ws : List (List Int)} (h : Was D 8 ws) {i : Int} {s : List Int} (hi : ¬ (0 ≤ i ∧ i < 8)) : Was (wrD D i s) 8 ws := by
  refine ⟨h.len, h.secs, fun j hj => ?_⟩
  rw [wr_cur hl, h.get j hj, if_neg]
  rintro ⟨h2, _⟩
  exact hi (by have := inR_bd h2; omega)

theorem diskLast_calls (w : World) (A : Option Addr) (n cap : Nat) (l : List Op21) (hs : SrW w 1 A (n * 4) (l.flatMap Op21.c)) (hl : l.length = n) (hok : ∀ o ∈ l, o.OK) (hc : n ≤ cap) (hn : n ≤ 9223372036854775807) :
    Calls Try.prog 8 [.slice A n cap].toArray w fun e w' => e = .returned (.bool true) ∧ HP w w' [] [] := by
 refine calls_of_W Try.func8 rfl Try.ntmps8 rfl rfl (HP.refl w []) ?_
 refine sr ?_
 refine oas ?_
 refine nx ?_
 refine cp rfl (fun w hp => awake21_calls w) ?_
 refine oas ?_
 refine nx ?_
 refine cg rfl (fun w hp => new21_calls 8 (by omega) (by omega) w) (fun b18 h18 => ?_)
 refine omv ?_
 refine ov vex ?_
 refine ov vex ?_
 refine oas ?_
 refine oas ?_
 refine nq ?_
 refine W.seq ?_
 refine sr ?_
 refine omv ?_
 refine ov (V_eqlP (by kernel_rfl) rfl rfl) ?_
 refine omv ?_
 refine oy rfl rfl ?_
 refine omv ?_
 refine oy rfl rfl ?_
 refine ov (v2 V_neq) ?_
 refine ov (V_pick_f rfl rfl rfl) ?_
 refine omv ?_
 refine oy rfl (by decide) ?_
 refine omv ?_
 refine oy rfl (by decide) ?_
 refine ov vlenS ?_
 refine oy rfl (by decide) ?_
 refine ov (v2 V_gtr) ?_
 refine ov (V_pick_f rfl (by decide) rfl) ?_
 refine nq ?_
 refine W.cond_dec rfl (fun g1 => ?_) (fun g1 => ?_)
 · refine W.seq ?_
   refine W.region ?_
   refine omv ?_
   refine omv ?_
   refine oy rfl rfl ?_
   refine omv ?_
   refine oy rfl rfl ?_
   refine ov (V_neqP (by kernel_rfl) rfl rfl) ?_
   refine ov (V_pick_t rfl rfl rfl) ?_
   refine oas ?_
   refine nq ?_
   refine W.ret ?_
   refine WQ.then_ret ?_
   refine WQ.ret1 Try.results8 (.tmp rfl) ?_
   intro w' hp; exact ⟨by first | rfl | (simp; done) | (simp [*]; done) | simp_all, hp.forget⟩
 · refine W.skip ?_
   refine WQ.then ?_
   refine sr ?_
   refine oal [(512, iv .u8 (List.replicate 8 (List.replicate 64 0)).flatten)] (fun b6 => ?_) (hz := z512)
   refine nq ?_
   refine W.seq ?_
   refine sr ?_
   refine oas ?_
   refine nq ?_
   refine W.block ?_
   -- LOOP 0
   refine W.pick (S' := [(7, _), (0, _), (2, _), (3, _), (4, _), (5, _), (6, _), (31, _)]) [7, 0, 2, 3, 4, 5, 6, 31] rfl ?_
   refine W.loopG (σ := Nat × DS × List (List Int)) (fun ⟨i, D, ws⟩ => i ≤ n ∧ DOK D ∧ Live D ∧ D.n = 8 ∧ Was D 8 ws) (fun ⟨i, D, ws⟩ => [(7, .int .i64 (i : Nat))]) (fun ⟨i, D, ws⟩ => [(b18.d, .cells [(1, [.slice (some ⟨b18.s, 0, none⟩) D.n D.n]), (1, [.map (some b18.m)]), (1, [.int .i64 D.fuse]), (1, [.bool D.dead])] 101), (b18.s, .cells [(D.n * 64, iv .u8 D.sure.flatten)] 58), (b18.m, .obj (mapO .i64 (D.m.map sE) D.ck)), (b6, .cells [(512, iv .u8 ws.flatten)] 61)]) [] (fun ⟨i, D, ws⟩ => []) (fun ⟨i, D, ws⟩ => n - i) (0, newD 8, List.replicate 8 (List.replicate 64 0)) rfl cov ⟨Nat.zero_le _, newD_ok (by omega) (by omega), newD_live, rfl, was_new⟩ ?_
   rintro ⟨i, D, ws⟩ ⟨hi, hdk, hlv, hd8, hws⟩; dsimp only at hi hdk hlv hd8 hws ⊢
   refine W.seq ?_
   refine sr ?_
   refine omv ?_
   refine omv ?_
   refine ov vlenS ?_
   refine ov (v2 V_lss) ?_
   refine nq ?_
   refine W.cond_dec rfl (fun g2 => ?_) (fun g2 => ?_)
   · refine W.skip ?_
     refine WQ.then ?_
     refine W.seq ?_
     refine W.block ?_
     refine W.seq ?_
     refine W.seq ?_
     have hoi := ops21_get hok (i := i) (by omega)
     obtain ⟨hoi1, hoi2, hoi3, hoi4⟩ := hoi
     have hofs := ofL_sec hoi2
     have hofl := hofs.1
     have hwl := hws.len
     have hw64 : ∀ l ∈ ws, l.length = 64 := fun l hl => (hws.secs l hl).1
     refine W.region ?_
     refine omv ?_
     refine omv ?_
     obtain ⟨bbA, ooA, rfl⟩ := hs.hasN sc
     refine ov (viO 4) ?_
     refine ov (vfa 0 1) ?_
     refine ov (vldO 4 i 0 Op21.len hs) ?_
     refine ov (v2 V_eql) ?_
     refine nq ?_
     refine W.cond_dec rfl (fun g3 => ?_) (fun g3 => ?_)
     · refine W.seq ?_
       refine W.region ?_
       refine omv ?_
       refine cms rfl (fun w hp => sync21_calls b18 D hdk  w (HP.here hp cov)) ?_
       refine nq ?_
       refine W.exit ?_
       refine WQ.then_exit ?_
       refine WQ.block_hit ?_
       refine WQ.then ?_
       refine W.region ?_
       refine omv ?_
       first | refine ov vaddN ?_ | refine ov vadd ?_
       refine oas ?_
       refine WL.nil ?_
       exact ag (i + 1, syD D, ws) [7, 0, 2, 3, 4, 5, 6, 31] (by (try dsimp only); exact ⟨by omega, syD_ok hdk, hlv.syL, by rw [sy_n]; exact hd8, was_sy hlv hd8 hws⟩) (by (try dsimp only); omega) rfl cov
     · refine W.skip ?_
       refine WQ.then ?_
       refine W.seq ?_
       refine dr (.q 0 (.q 1 (.q 2 (.q 3 (.q 4 (.q 5 (.q 6 (.q 7 (.q 8 (.q 9 (.q 10 (.l 11 (.l 12 (.q 13 (.done))))))))))))))) [] ?_
       refine dq rfl (V_move rfl) ?_
       refine dq rfl (V_move rfl) ?_
       refine dq rfl (V_move rfl) ?_
       refine dq rfl (viO 4) ?_
       refine dq rfl (vfa 1 1) ?_
       refine dq rfl (vldO 4 i 1 Op21.len hs) ?_
       refine dq rfl (V_move rfl) ?_
       refine dq rfl (V_move rfl) ?_
       refine dq rfl (viO 4) ?_
       refine dq rfl (vfa 2 1) ?_
       refine dq rfl (vldO 4 i 2 Op21.len hs) ?_
       refine WD.l ?_
       refine dcp rfl rfl (fun w hp => of21_calls (l.getD i default).b w) ?_
       refine WD.l ?_
       refine dcms rfl rfl (fun w hp => write21_calls b18 D hdk (l.getD i default).i (ofL (l.getD i default).b) hofs w (HP.here hp cov)) ?_
       refine dq rfl (V_assign rfl) ?_
       refine WD.done ?_
       refine WQ.then ?_
       refine W.seq ?_
       by_cases h0 : 0 ≤ (l.getD i default).i
       · by_cases h8 : (l.getD i default).i < 8
         · have hwE := hlv.wrE (i := (l.getD i default).i)
           refine W.region ?_
           refine omv ?_
           refine omv ?_
           refine ov (viO 4) ?_
           refine ov (vfa 1 1) ?_
           refine ov (vldO 4 i 1 Op21.len hs) ?_
           refine ov (v2 V_geq) ?_
           refine omv ?_
           refine oy rfl (decide_eq_true (by omega)) ?_
           refine omv ?_
           refine oy rfl (decide_eq_true (by omega)) ?_
           refine omv ?_
           refine oy rfl (decide_eq_true (by omega)) ?_
           refine ov (viO 4) ?_
           refine oy rfl (decide_eq_true (by omega)) ?_
           refine ov (vfa 1 1) ?_
           refine oy rfl (decide_eq_true (by omega)) ?_
           refine ov (vldO 4 i 1 Op21.len hs) ?_
           refine oy rfl (decide_eq_true (by omega)) ?_
           refine ov (v2 V_lss) ?_
           refine ov (V_pick_t rfl (decide_eq_true (by omega)) rfl) ?_
           refine oas ?_
           refine nq ?_
           refine W.seq ?_
           refine sr ?_
           refine omv ?_
           refine ov (v2 V_eql) ?_
           refine omv ?_
           refine ov (V_neqB (by kernel_rfl) rfl rfl) ?_
           refine nq ?_
           refine W.cond_false rfl (by rw [hwE]; first | (rw [if_pos (by simp only [inR, Bool.and_eq_true, decide_eq_true_eq]; omega), show decide ((l.getD i default).i < 8) = true from decide_eq_true h8]; rfl) | (rw [if_neg (by simp only [inR, Bool.and_eq_true, decide_eq_true_eq]; omega)]; first | rfl | (rw [show decide ((l.getD i default).i < 8) = false from decide_eq_false h8]; rfl) | (rw [show decide (0 ≤ (l.getD i default).i) = false from decide_eq_false h0]; rfl))) ?_
           refine W.skip ?_
           refine WQ.then ?_
           refine W.seq ?_
           refine sr ?_
           refine omv ?_
           refine nq ?_
           refine W.cond_true rfl (decide_eq_true h8) ?_
           refine dr (.q 0 (.q 1 (.q 2 (.q 3 (.q 4 (.q 5 (.q 6 (.q 7 (.q 8 (.q 9 (.l 10 (.q 11 (.l 12 (.done)))))))))))))) [] ?_
           refine dq rfl (V_move rfl) ?_
           refine dq rfl (V_move rfl) ?_
           refine dq rfl (viO 4) ?_
           refine dq rfl (vfa 1 1) ?_
           refine dq rfl (vldO 4 i 1 Op21.len hs) ?_
           refine dq rfl (V_move rfl) ?_
           refine dq rfl (V_move rfl) ?_
           refine dq rfl (viO 4) ?_
           refine dq rfl (vfa 2 1) ?_
           refine dq rfl (vldO 4 i 2 Op21.len hs) ?_
           refine WD.l ?_
           refine dcp rfl rfl (fun w hp => of21_calls (l.getD i default).b w) ?_
           refine dq rfl (viASecZ 8 64) ?_
           refine WD.l ?_
           refine dstSec 64 hw64 rfl ?_
           refine WD.done ?_
           refine WQ.then ?_
           refine W.seq ?_
           have hE1 : DOK (wrD D (l.getD i default).i (ofL (l.getD i default).b)) := wrD_ok hdk hofs
           have hE2 : Live (wrD D (l.getD i default).i (ofL (l.getD i default).b)) := hlv.wrL
           have hE3 : (wrD D (l.getD i default).i (ofL (l.getD i default).b)).n = 8 := by rw [wr_n]; exact hd8
           first | (have hE4 := was_wrn hlv hd8 hws (s := ofL (l.getD i default).b) (i := (l.getD i default).i) (by omega); generalize wrD D (l.getD i default).i (ofL (l.getD i default).b) = E at hE1 hE2 hE3 hE4 ⊢; obtain ⟨us, hus⟩ : ∃ us, us = ws := ⟨_, rfl⟩; rw [← hus] at hE4 ⊢) | (have hE4 := was_wr hlv hd8 hws hofs (i := (l.getD i default).i) (by omega); generalize wrD D (l.getD i default).i (ofL (l.getD i default).b) = E at hE1 hE2 hE3 hE4 ⊢; generalize ws.set (l.getD i default).i.toNat (ofL (l.getD i default).b) = us at hE4 ⊢)
           have hul := hE4.len
           have hu64 : ∀ l ∈ us, l.length = 64 := fun l hl => (hE4.secs l hl).1
           refine W.region ?_
           refine oas ?_
           refine nq ?_
           refine W.block ?_
           -- LOOP 1
           refine W.pick (S' := [(10, _), (0, _), (2, _), (3, _), (4, _), (5, _), (6, _), (7, _), (8, _), (9, _), (31, _), (40, _), (48, _), (81, _), (82, _)]) [10, 0, 2, 3, 4, 5, 6, 7, 8, 9, 31, 40, 48, 81, 82] rfl ?_
           refine W.loopG (σ := Nat) (fun q => q ≤ 8) (fun q => [(10, .int .i64 (q : Nat))]) (fun q => []) [(b18.d, _), (b18.s, _), (b18.m, _), (b6, _)] (fun q => []) (fun q => 8 - q) 0 rfl cov (Nat.zero_le _) ?_
           rintro q hi
           refine W.seq ?_
           refine sr ?_
           refine omv ?_
           refine ov (v2 V_lss) ?_
           refine nq ?_
           refine W.cond_dec rfl (fun g4 => ?_) (fun g4 => ?_)
           · refine W.skip ?_
             refine WQ.then ?_
             refine W.seq ?_
             refine W.block ?_
             refine W.seq ?_
             have hcs := hE1.cur (i := q) (by omega)
             have hcl := hcs.1
             have hrd := rd_in (D := E) (i := q) (by omega)
             have hrl : (rdS E (q : Int)).length = 64 := by rw [hrd.2]; exact hcl
             have huq := hE4.get q (by omega)
             have hgu := (get_sec hE4.secs (i := q) (by omega)).1
             have hgu2 : (us[q]?.getD []).length = 64 := by rw [← List.getD_eq_getElem?_getD]; exact hgu
             refine W.region ?_
             refine omv ?_
             refine omv ?_
             refine cms rfl (fun w hp => read21_calls b18 E hE1 (q : Int) w (HP.here hp cov)) ?_
             refine omv ?_
             refine ov vex ?_
             refine ov vex ?_
             refine oal [(64, List.replicate 64 (.int .u8 0))] (fun b11 => ?_)
             refine osta 64 ?_
             refine oas ?_
             refine nq ?_
             refine W.seq ?_
             rw [hrd.1]
             simp only [hrd.2]
             clear hrl
             refine dr (.q 0 (.q 1 (.q 2 (.q 3 (.q 4 (.q 5 (.q 6 (.q 7 (.q 8 (.done)))))))))) [(b11, _), (b6, _)] ?_
             refine dq rfl (V_move rfl) ?_
             refine dq rfl (v2 V_neq) ?_
             refine dq rfl (V_move rfl) ?_
             refine dy rfl rfl (by decide) (vlda 64) ?_
             refine dy rfl rfl (by decide) (V_move rfl) ?_
             refine dy rfl rfl (by decide) (viASec 8 64) ?_
             refine dy rfl rfl (by decide) (vldSec 64 hu64) ?_
             refine dy rfl rfl (by decide) (vneqI 3 64 .u8) ?_
             refine dq rfl (V_pick_f rfl (by decide) rfl) ?_
             refine WD.done ?_
             refine WQ.then ?_
             refine W.cond_false rfl (by rw [huq]; simp) ?_
             refine W.skip ?_
             refine WQ.block_normal ?_
             refine WQ.then ?_
             refine W.region ?_
             refine omv ?_
             first | refine ov vaddN ?_ | refine ov vadd ?_
             refine oas ?_
             refine WL.nil ?_
             exact ag (q + 1) [10, 0, 2, 3, 4, 5, 6, 7, 8, 9, 31, 40, 48, 81, 82] (sc) (by (try dsimp only); omega) rfl cov
           · refine W.exit ?_
             refine WQ.then_exit ?_
             refine WQ.then_exit ?_
             refine WQ.block_hit ?_
             refine WQ.block_normal ?_
             refine WQ.then ?_
             refine W.region ?_
             refine omv ?_
             first | refine ov vaddN ?_ | refine ov vadd ?_
             refine oas ?_
             refine WL.nil ?_
             exact ag (i + 1, E, us) [7, 0, 2, 3, 4, 5, 6, 31] (by (try dsimp only); exact ⟨by omega, hE1, hE2, hE3, hE4⟩) (by (try dsimp only); omega) rfl cov
         · have hwE := hlv.wrE (i := (l.getD i default).i)
           refine W.region ?_
           refine omv ?_
           refine omv ?_
           refine ov (viO 4) ?_
           refine ov (vfa 1 1) ?_
           refine ov (vldO 4 i 1 Op21.len hs) ?_
           refine ov (v2 V_geq) ?_
           refine omv ?_
           refine oy rfl (decide_eq_true (by omega)) ?_
           refine omv ?_
           refine oy rfl (decide_eq_true (by omega)) ?_
           refine omv ?_
           refine oy rfl (decide_eq_true (by omega)) ?_
           refine ov (viO 4) ?_
           refine oy rfl (decide_eq_true (by omega)) ?_
           refine ov (vfa 1 1) ?_
           refine oy rfl (decide_eq_true (by omega)) ?_
           refine ov (vldO 4 i 1 Op21.len hs) ?_
           refine oy rfl (decide_eq_true (by omega)) ?_
           refine ov (v2 V_lss) ?_
           refine ov (V_pick_t rfl (decide_eq_true (by omega)) rfl) ?_
           refine oas ?_
           refine nq ?_
           refine W.seq ?_
           refine sr ?_
           refine omv ?_
           refine ov (v2 V_eql) ?_
           refine omv ?_
           refine ov (V_neqB (by kernel_rfl) rfl rfl) ?_
           refine nq ?_
           refine W.cond_false rfl (by rw [hwE]; first | (rw [if_pos (by simp only [inR, Bool.and_eq_true, decide_eq_true_eq]; omega), show decide ((l.getD i default).i < 8) = true from decide_eq_true h8]; rfl) | (rw [if_neg (by simp only [inR, Bool.and_eq_true, decide_eq_true_eq]; omega)]; first | rfl | (rw [show decide ((l.getD i default).i < 8) = false from decide_eq_false h8]; rfl) | (rw [show decide (0 ≤ (l.getD i default).i) = false from decide_eq_false h0]; rfl))) ?_
           refine W.skip ?_
           refine WQ.then ?_
           refine W.seq ?_
           refine sr ?_
           refine omv ?_
           refine nq ?_
           refine W.cond_false rfl (decide_eq_false h8) ?_
           refine W.skip ?_
           refine WQ.then ?_
           refine W.seq ?_
           have hE1 : DOK (wrD D (l.getD i default).i (ofL (l.getD i default).b)) := wrD_ok hdk hofs
           have hE2 : Live (wrD D (l.getD i default).i (ofL (l.getD i default).b)) := hlv.wrL
           have hE3 : (wrD D (l.getD i default).i (ofL (l.getD i default).b)).n = 8 := by rw [wr_n]; exact hd8
           first | (have hE4 := was_wrn hlv hd8 hws (s := ofL (l.getD i default).b) (i := (l.getD i default).i) (by omega); generalize wrD D (l.getD i default).i (ofL (l.getD i default).b) = E at hE1 hE2 hE3 hE4 ⊢; obtain ⟨us, hus⟩ : ∃ us, us = ws := ⟨_, rfl⟩; rw [← hus] at hE4 ⊢) | (have hE4 := was_wr hlv hd8 hws hofs (i := (l.getD i default).i) (by omega); generalize wrD D (l.getD i default).i (ofL (l.getD i default).b) = E at hE1 hE2 hE3 hE4 ⊢; generalize ws.set (l.getD i default).i.toNat (ofL (l.getD i default).b) = us at hE4 ⊢)
           have hul := hE4.len
           have hu64 : ∀ l ∈ us, l.length = 64 := fun l hl => (hE4.secs l hl).1
           refine W.region ?_
           refine oas ?_
           refine nq ?_
           refine W.block ?_
           -- LOOP 2
           refine W.pick (S' := [(10, _), (0, _), (2, _), (3, _), (4, _), (5, _), (6, _), (7, _), (8, _), (9, _), (31, _), (40, _), (48, _), (81, _), (82, _)]) [10, 0, 2, 3, 4, 5, 6, 7, 8, 9, 31, 40, 48, 81, 82] rfl ?_
           refine W.loopG (σ := Nat) (fun q => q ≤ 8) (fun q => [(10, .int .i64 (q : Nat))]) (fun q => []) [(b18.d, _), (b18.s, _), (b18.m, _), (b6, _)] (fun q => []) (fun q => 8 - q) 0 rfl cov (Nat.zero_le _) ?_
           rintro q hi
           refine W.seq ?_
           refine sr ?_
           refine omv ?_
           refine ov (v2 V_lss) ?_
           refine nq ?_
           refine W.cond_dec rfl (fun g5 => ?_) (fun g5 => ?_)
           · refine W.skip ?_
             refine WQ.then ?_
             refine W.seq ?_
             refine W.block ?_
             refine W.seq ?_
             have hcs := hE1.cur (i := q) (by omega)
             have hcl := hcs.1
             have hrd := rd_in (D := E) (i := q) (by omega)
             have hrl : (rdS E (q : Int)).length = 64 := by rw [hrd.2]; exact hcl
             have huq := hE4.get q (by omega)
             have hgu := (get_sec hE4.secs (i := q) (by omega)).1
             have hgu2 : (us[q]?.getD []).length = 64 := by rw [← List.getD_eq_getElem?_getD]; exact hgu
             refine W.region ?_
             refine omv ?_
             refine omv ?_
             refine cms rfl (fun w hp => read21_calls b18 E hE1 (q : Int) w (HP.here hp cov)) ?_
             refine omv ?_
             refine ov vex ?_
             refine ov vex ?_
             refine oal [(64, List.replicate 64 (.int .u8 0))] (fun b11 => ?_)
             refine osta 64 ?_
             refine oas ?_
             refine nq ?_
             refine W.seq ?_
             rw [hrd.1]
             simp only [hrd.2]
             clear hrl
             refine dr (.q 0 (.q 1 (.q 2 (.q 3 (.q 4 (.q 5 (.q 6 (.q 7 (.q 8 (.done)))))))))) [(b11, _), (b6, _)] ?_
             refine dq rfl (V_move rfl) ?_
             refine dq rfl (v2 V_neq) ?_
             refine dq rfl (V_move rfl) ?_
             refine dy rfl rfl (by decide) (vlda 64) ?_
             refine dy rfl rfl (by decide) (V_move rfl) ?_
             refine dy rfl rfl (by decide) (viASec 8 64) ?_
             refine dy rfl rfl (by decide) (vldSec 64 hu64) ?_
             refine dy rfl rfl (by decide) (vneqI 3 64 .u8) ?_
             refine dq rfl (V_pick_f rfl (by decide) rfl) ?_
             refine WD.done ?_
             refine WQ.then ?_
             refine W.cond_false rfl (by rw [huq]; simp) ?_
             refine W.skip ?_
             refine WQ.block_normal ?_
             refine WQ.then ?_
             refine W.region ?_
             refine omv ?_
             first | refine ov vaddN ?_ | refine ov vadd ?_
             refine oas ?_
             refine WL.nil ?_
             exact ag (q + 1) [10, 0, 2, 3, 4, 5, 6, 7, 8, 9, 31, 40, 48, 81, 82] (sc) (by (try dsimp only); omega) rfl cov
           · refine W.exit ?_
             refine WQ.then_exit ?_
             refine WQ.then_exit ?_
             refine WQ.block_hit ?_
             refine WQ.block_normal ?_
             refine WQ.then ?_
             refine W.region ?_
             refine omv ?_
             first | refine ov vaddN ?_ | refine ov vadd ?_
             refine oas ?_
             refine WL.nil ?_
             exact ag (i + 1, E, us) [7, 0, 2, 3, 4, 5, 6, 31] (by (try dsimp only); exact ⟨by omega, hE1, hE2, hE3, hE4⟩) (by (try dsimp only); omega) rfl cov
       · by_cases h8 : (l.getD i default).i < 8
         · have hwE := hlv.wrE (i := (l.getD i default).i)
           refine W.region ?_
           refine omv ?_
           refine omv ?_
           refine ov (viO 4) ?_
           refine ov (vfa 1 1) ?_
           refine ov (vldO 4 i 1 Op21.len hs) ?_
           refine ov (v2 V_geq) ?_
           refine omv ?_
           refine on rfl (decide_eq_false (by omega)) ?_
           refine on rfl (decide_eq_false (by omega)) ?_
           refine on rfl (decide_eq_false (by omega)) ?_
           refine on rfl (decide_eq_false (by omega)) ?_
           refine on rfl (decide_eq_false (by omega)) ?_
           refine on rfl (decide_eq_false (by omega)) ?_
           refine ov (V_pick_f rfl (decide_eq_false (by omega)) rfl) ?_
           refine oas ?_
           refine nq ?_
           refine W.seq ?_
           refine sr ?_
           refine omv ?_
           refine ov (v2 V_eql) ?_
           refine omv ?_
           refine ov (V_neqB (by kernel_rfl) rfl rfl) ?_
           refine nq ?_
           refine W.cond_false rfl (by rw [hwE]; first | (rw [if_pos (by simp only [inR, Bool.and_eq_true, decide_eq_true_eq]; omega), show decide ((l.getD i default).i < 8) = true from decide_eq_true h8]; rfl) | (rw [if_neg (by simp only [inR, Bool.and_eq_true, decide_eq_true_eq]; omega)]; first | rfl | (rw [show decide ((l.getD i default).i < 8) = false from decide_eq_false h8]; rfl) | (rw [show decide (0 ≤ (l.getD i default).i) = false from decide_eq_false h0]; rfl))) ?_
           refine W.skip ?_
           refine WQ.then ?_
           refine W.seq ?_
           refine sr ?_
           refine omv ?_
           refine nq ?_
           refine W.cond_false rfl rfl ?_
           refine W.skip ?_
           refine WQ.then ?_
           refine W.seq ?_
           have hE1 : DOK (wrD D (l.getD i default).i (ofL (l.getD i default).b)) := wrD_ok hdk hofs
           have hE2 : Live (wrD D (l.getD i default).i (ofL (l.getD i default).b)) := hlv.wrL
           have hE3 : (wrD D (l.getD i default).i (ofL (l.getD i default).b)).n = 8 := by rw [wr_n]; exact hd8
           first | (have hE4 := was_wrn hlv hd8 hws (s := ofL (l.getD i default).b) (i := (l.getD i default).i) (by omega); generalize wrD D (l.getD i default).i (ofL (l.getD i default).b) = E at hE1 hE2 hE3 hE4 ⊢; obtain ⟨us, hus⟩ : ∃ us, us = ws := ⟨_, rfl⟩; rw [← hus] at hE4 ⊢) | (have hE4 := was_wr hlv hd8 hws hofs (i := (l.getD i default).i) (by omega); generalize wrD D (l.getD i default).i (ofL (l.getD i default).b) = E at hE1 hE2 hE3 hE4 ⊢; generalize ws.set (l.getD i default).i.toNat (ofL (l.getD i default).b) = us at hE4 ⊢)
           have hul := hE4.len
           have hu64 : ∀ l ∈ us, l.length = 64 := fun l hl => (hE4.secs l hl).1
           refine W.region ?_
           refine oas ?_
           refine nq ?_
           refine W.block ?_
           -- LOOP 3
           refine W.pick (S' := [(10, _), (0, _), (2, _), (3, _), (4, _), (5, _), (6, _), (7, _), (8, _), (9, _), (31, _), (40, _), (48, _), (81, _), (82, _)]) [10, 0, 2, 3, 4, 5, 6, 7, 8, 9, 31, 40, 48, 81, 82] rfl ?_
           refine W.loopG (σ := Nat) (fun q => q ≤ 8) (fun q => [(10, .int .i64 (q : Nat))]) (fun q => []) [(b18.d, _), (b18.s, _), (b18.m, _), (b6, _)] (fun q => []) (fun q => 8 - q) 0 rfl cov (Nat.zero_le _) ?_
           rintro q hi
           refine W.seq ?_
           refine sr ?_
           refine omv ?_
           refine ov (v2 V_lss) ?_
           refine nq ?_
           refine W.cond_dec rfl (fun g6 => ?_) (fun g6 => ?_)
           · refine W.skip ?_
             refine WQ.then ?_
             refine W.seq ?_
             refine W.block ?_
             refine W.seq ?_
             have hcs := hE1.cur (i := q) (by omega)
             have hcl := hcs.1
             have hrd := rd_in (D := E) (i := q) (by omega)
             have hrl : (rdS E (q : Int)).length = 64 := by rw [hrd.2]; exact hcl
             have huq := hE4.get q (by omega)
             have hgu := (get_sec hE4.secs (i := q) (by omega)).1
             have hgu2 : (us[q]?.getD []).length = 64 := by rw [← List.getD_eq_getElem?_getD]; exact hgu
             refine W.region ?_
             refine omv ?_
             refine omv ?_
             refine cms rfl (fun w hp => read21_calls b18 E hE1 (q : Int) w (HP.here hp cov)) ?_
             refine omv ?_
             refine ov vex ?_
             refine ov vex ?_
             refine oal [(64, List.replicate 64 (.int .u8 0))] (fun b11 => ?_)
             refine osta 64 ?_
             refine oas ?_
             refine nq ?_
             refine W.seq ?_
             rw [hrd.1]
             simp only [hrd.2]
             clear hrl
             refine dr (.q 0 (.q 1 (.q 2 (.q 3 (.q 4 (.q 5 (.q 6 (.q 7 (.q 8 (.done)))))))))) [(b11, _), (b6, _)] ?_
             refine dq rfl (V_move rfl) ?_
             refine dq rfl (v2 V_neq) ?_
             refine dq rfl (V_move rfl) ?_
             refine dy rfl rfl (by decide) (vlda 64) ?_
             refine dy rfl rfl (by decide) (V_move rfl) ?_
             refine dy rfl rfl (by decide) (viASec 8 64) ?_
             refine dy rfl rfl (by decide) (vldSec 64 hu64) ?_
             refine dy rfl rfl (by decide) (vneqI 3 64 .u8) ?_
             refine dq rfl (V_pick_f rfl (by decide) rfl) ?_
             refine WD.done ?_
             refine WQ.then ?_
             refine W.cond_false rfl (by rw [huq]; simp) ?_
             refine W.skip ?_
             refine WQ.block_normal ?_
             refine WQ.then ?_
             refine W.region ?_
             refine omv ?_
             first | refine ov vaddN ?_ | refine ov vadd ?_
             refine oas ?_
             refine WL.nil ?_
             exact ag (q + 1) [10, 0, 2, 3, 4, 5, 6, 7, 8, 9, 31, 40, 48, 81, 82] (sc) (by (try dsimp only); omega) rfl cov
           · refine W.exit ?_
             refine WQ.then_exit ?_
             refine WQ.then_exit ?_
             refine WQ.block_hit ?_
             refine WQ.block_normal ?_
             refine WQ.then ?_
             refine W.region ?_
             refine omv ?_
             first | refine ov vaddN ?_ | refine ov vadd ?_
             refine oas ?_
             refine WL.nil ?_
             exact ag (i + 1, E, us) [7, 0, 2, 3, 4, 5, 6, 31] (by (try dsimp only); exact ⟨by omega, hE1, hE2, hE3, hE4⟩) (by (try dsimp only); omega) rfl cov
         · have hwE := hlv.wrE (i := (l.getD i default).i)
           refine W.region ?_
           refine omv ?_
           refine omv ?_
           refine ov (viO 4) ?_
           refine ov (vfa 1 1) ?_
           refine ov (vldO 4 i 1 Op21.len hs) ?_
           refine ov (v2 V_geq) ?_
           refine omv ?_
           refine on rfl (decide_eq_false (by omega)) ?_
           refine on rfl (decide_eq_false (by omega)) ?_
           refine on rfl (decide_eq_false (by omega)) ?_
           refine on rfl (decide_eq_false (by omega)) ?_
           refine on rfl (decide_eq_false (by omega)) ?_
           refine on rfl (decide_eq_false (by omega)) ?_
           refine ov (V_pick_f rfl (decide_eq_false (by omega)) rfl) ?_
           refine oas ?_
           refine nq ?_
           refine W.seq ?_
           refine sr ?_
           refine omv ?_
           refine ov (v2 V_eql) ?_
           refine omv ?_
           refine ov (V_neqB (by kernel_rfl) rfl rfl) ?_
           refine nq ?_
           refine W.cond_false rfl (by rw [hwE]; first | (rw [if_pos (by simp only [inR, Bool.and_eq_true, decide_eq_true_eq]; omega), show decide ((l.getD i default).i < 8) = true from decide_eq_true h8]; rfl) | (rw [if_neg (by simp only [inR, Bool.and_eq_true, decide_eq_true_eq]; omega)]; first | rfl | (rw [show decide ((l.getD i default).i < 8) = false from decide_eq_false h8]; rfl) | (rw [show decide (0 ≤ (l.getD i default).i) = false from decide_eq_false h0]; rfl))) ?_
           refine W.skip ?_
           refine WQ.then ?_
           refine W.seq ?_
           refine sr ?_
           refine omv ?_
           refine nq ?_
           refine W.cond_false rfl rfl ?_
           refine W.skip ?_
           refine WQ.then ?_
           refine W.seq ?_
           have hE1 : DOK (wrD D (l.getD i default).i (ofL (l.getD i default).b)) := wrD_ok hdk hofs
           have hE2 : Live (wrD D (l.getD i default).i (ofL (l.getD i default).b)) := hlv.wrL
           have hE3 : (wrD D (l.getD i default).i (ofL (l.getD i default).b)).n = 8 := by rw [wr_n]; exact hd8
           first | (have hE4 := was_wrn hlv hd8 hws (s := ofL (l.getD i default).b) (i := (l.getD i default).i) (by omega); generalize wrD D (l.getD i default).i (ofL (l.getD i default).b) = E at hE1 hE2 hE3 hE4 ⊢; obtain ⟨us, hus⟩ : ∃ us, us = ws := ⟨_, rfl⟩; rw [← hus] at hE4 ⊢) | (have hE4 := was_wr hlv hd8 hws hofs (i := (l.getD i default).i) (by omega); generalize wrD D (l.getD i default).i (ofL (l.getD i default).b) = E at hE1 hE2 hE3 hE4 ⊢; generalize ws.set (l.getD i default).i.toNat (ofL (l.getD i default).b) = us at hE4 ⊢)
           have hul := hE4.len
           have hu64 : ∀ l ∈ us, l.length = 64 := fun l hl => (hE4.secs l hl).1
           refine W.region ?_
           refine oas ?_
           refine nq ?_
           refine W.block ?_
           -- LOOP 4
           refine W.pick (S' := [(10, _), (0, _), (2, _), (3, _), (4, _), (5, _), (6, _), (7, _), (8, _), (9, _), (31, _), (40, _), (48, _), (81, _), (82, _)]) [10, 0, 2, 3, 4, 5, 6, 7, 8, 9, 31, 40, 48, 81, 82] rfl ?_
           refine W.loopG (σ := Nat) (fun q => q ≤ 8) (fun q => [(10, .int .i64 (q : Nat))]) (fun q => []) [(b18.d, _), (b18.s, _), (b18.m, _), (b6, _)] (fun q => []) (fun q => 8 - q) 0 rfl cov (Nat.zero_le _) ?_
           rintro q hi
           refine W.seq ?_
           refine sr ?_
           refine omv ?_
           refine ov (v2 V_lss) ?_
           refine nq ?_
           refine W.cond_dec rfl (fun g7 => ?_) (fun g7 => ?_)
           · refine W.skip ?_
             refine WQ.then ?_
             refine W.seq ?_
             refine W.block ?_
             refine W.seq ?_
             have hcs := hE1.cur (i := q) (by omega)
             have hcl := hcs.1
             have hrd := rd_in (D := E) (i := q) (by omega)
             have hrl : (rdS E (q : Int)).length = 64 := by rw [hrd.2]; exact hcl
             have huq := hE4.get q (by omega)
             have hgu := (get_sec hE4.secs (i := q) (by omega)).1
             have hgu2 : (us[q]?.getD []).length = 64 := by rw [← List.getD_eq_getElem?_getD]; exact hgu
             refine W.region ?_
             refine omv ?_
             refine omv ?_
             refine cms rfl (fun w hp => read21_calls b18 E hE1 (q : Int) w (HP.here hp cov)) ?_
             refine omv ?_
             refine ov vex ?_
             refine ov vex ?_
             refine oal [(64, List.replicate 64 (.int .u8 0))] (fun b11 => ?_)
             refine osta 64 ?_
             refine oas ?_
             refine nq ?_
             refine W.seq ?_
             rw [hrd.1]
             simp only [hrd.2]
             clear hrl
             refine dr (.q 0 (.q 1 (.q 2 (.q 3 (.q 4 (.q 5 (.q 6 (.q 7 (.q 8 (.done)))))))))) [(b11, _), (b6, _)] ?_
             refine dq rfl (V_move rfl) ?_
             refine dq rfl (v2 V_neq) ?_
             refine dq rfl (V_move rfl) ?_
             refine dy rfl rfl (by decide) (vlda 64) ?_
             refine dy rfl rfl (by decide) (V_move rfl) ?_
             refine dy rfl rfl (by decide) (viASec 8 64) ?_
             refine dy rfl rfl (by decide) (vldSec 64 hu64) ?_
             refine dy rfl rfl (by decide) (vneqI 3 64 .u8) ?_
             refine dq rfl (V_pick_f rfl (by decide) rfl) ?_
             refine WD.done ?_
             refine WQ.then ?_
             refine W.cond_false rfl (by rw [huq]; simp) ?_
             refine W.skip ?_
             refine WQ.block_normal ?_
             refine WQ.then ?_
             refine W.region ?_
             refine omv ?_
             first | refine ov vaddN ?_ | refine ov vadd ?_
             refine oas ?_
             refine WL.nil ?_
             exact ag (q + 1) [10, 0, 2, 3, 4, 5, 6, 7, 8, 9, 31, 40, 48, 81, 82] (sc) (by (try dsimp only); omega) rfl cov
           · refine W.exit ?_
             refine WQ.then_exit ?_
             refine WQ.then_exit ?_
             refine WQ.block_hit ?_
             refine WQ.block_normal ?_
             refine WQ.then ?_
             refine W.region ?_
             refine omv ?_
             first | refine ov vaddN ?_ | refine ov vadd ?_
             refine oas ?_
             refine WL.nil ?_
             exact ag (i + 1, E, us) [7, 0, 2, 3, 4, 5, 6, 31] (by (try dsimp only); exact ⟨by omega, hE1, hE2, hE3, hE4⟩) (by (try dsimp only); omega) rfl cov
   · refine W.exit ?_
     refine WQ.then_exit ?_
     refine WQ.then_exit ?_
     refine WQ.block_hit ?_
     refine WQ.then ?_
     refine sr ?_
     refine omv ?_
     refine cms rfl (fun w hp => crash21_calls b18 D hdk 18446744073709551615 (by omega) w (HP.here hp cov)) ?_
     refine nq ?_
     refine W.seq ?_
     refine W.seq ?_
     have hall : ∀ i, cur (crD D 18446744073709551615) i = cur D i := fun i => crash_all hdk
     have hC1 : DOK (crD D 18446744073709551615) := crD_ok hdk
     have hZn : (crD D 18446744073709551615).n = 8 := hd8
     generalize crD D 18446744073709551615 = Z at hall hC1 hZn ⊢
     have hwl := hws.len
     have hw64 : ∀ l ∈ ws, l.length = 64 := fun l hl => (hws.secs l hl).1
     refine W.region ?_
     refine oas ?_
     refine nq ?_
     refine W.block ?_
     -- LOOP 5
     refine W.pick (S' := [(13, _), (0, _), (2, _), (3, _), (4, _), (5, _), (6, _), (7, _), (31, _), (40, _)]) [13, 0, 2, 3, 4, 5, 6, 7, 31, 40] rfl ?_
     refine W.loopG (σ := Nat) (fun q => q ≤ 8) (fun q => [(13, .int .i64 (q : Nat))]) (fun q => []) [(b18.d, _), (b18.s, _), (b18.m, _), (b6, _)] (fun q => []) (fun q => 8 - q) 0 rfl cov (Nat.zero_le _) ?_
     rintro q hi
     refine W.seq ?_
     refine sr ?_
     refine omv ?_
     refine ov (v2 V_lss) ?_
     refine nq ?_
     refine W.cond_dec rfl (fun g8 => ?_) (fun g8 => ?_)
     · refine W.skip ?_
       refine WQ.then ?_
       refine W.seq ?_
       refine W.block ?_
       refine W.seq ?_
       have hcs := hC1.cur (i := q) (by omega)
       have hcl := hcs.1
       have hrd := rd_in (D := Z) (i := q) (by omega)
       have hrl : (rdS Z (q : Int)).length = 64 := by rw [hrd.2]; exact hcl
       have huq := hws.get q (by omega)
       have hgu := (get_sec hws.secs (i := q) (by omega)).1
       have hgu2 : (ws[q]?.getD []).length = 64 := by rw [← List.getD_eq_getElem?_getD]; exact hgu
       have hq8 := hall q
       refine W.region ?_
       refine omv ?_
       refine omv ?_
       refine cms rfl (fun w hp => read21_calls b18 Z hC1 (q : Int) w (HP.here hp cov)) ?_
       refine omv ?_
       refine ov vex ?_
       refine ov vex ?_
       refine oal [(64, List.replicate 64 (.int .u8 0))] (fun b14 => ?_)
       refine osta 64 ?_
       refine oas ?_
       refine nq ?_
       refine W.seq ?_
       simp only [hrd.2]
       clear hrl
       refine dr (.q 0 (.q 1 (.q 2 (.q 3 (.q 4 (.done)))))) [(b14, _), (b6, _)] ?_
       refine dq rfl (vlda 64) ?_
       refine dq rfl (V_move rfl) ?_
       refine dq rfl (viASec 8 64) ?_
       refine dq rfl (vldSec 64 hw64) ?_
       refine dq rfl (vneqI 3 64 .u8) ?_
       refine WD.done ?_
       refine WQ.then ?_
       refine W.cond_false rfl (by rw [huq, hq8]; simp) ?_
       refine W.skip ?_
       refine WQ.block_normal ?_
       refine WQ.then ?_
       refine W.region ?_
       refine omv ?_
       first | refine ov vaddN ?_ | refine ov vadd ?_
       refine oas ?_
       refine WL.nil ?_
       exact ag (q + 1) [13, 0, 2, 3, 4, 5, 6, 7, 31, 40] (sc) (by (try dsimp only); omega) rfl cov
     · refine W.exit ?_
       refine WQ.then_exit ?_
       refine WQ.then_exit ?_
       refine WQ.block_hit ?_
       refine WQ.then ?_
       refine sr ?_
       refine omv ?_
       refine oas ?_
       refine nq ?_
       refine W.ret ?_
       refine WQ.ret1 Try.results8 (.tmp rfl) ?_
       intro w' hp; exact ⟨by first | rfl | (simp; done) | (simp [*]; done) | simp_all, hp.forget⟩

end Go.Proofs.Ytnpnnafcdnefiaa