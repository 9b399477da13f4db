/- Disks: what their methods do. -/
import Derived.Test.YtmeckbjinmgbbaaGreatDisk
set_option linter.unusedVariables false
set_option linter.unusedSimpArgs false

namespace Go.Proofs.YtmeckbjinmgbbaaGreat
open Go.X
theorem slSec : slEs Tryz.prog 71 115 64 64 (.int .u8 0) := by
  refine ⟨by kernel_rfl, ?_⟩
  obtain ⟨i, hi⟩ : ∃ i, Tryz.prog.info? 115 = some i := Option.isSome_iff_exists.1 (by kernel_rfl)
  obtain ⟨z, hz⟩ : ∃ z, i.zero = some z := Option.isSome_iff_exists.1 (by have : ((Tryz.prog.info? 115).bind (·.zero)).isSome = true := by kernel_rfl
                                                                          rw [hi] at this; exact this)
  have e1 : (Tryz.prog.info? 115).map (·.size) = some 64 := by kernel_rfl
  have e2 : (Tryz.prog.info? 115).map (·.bytes) = some 64 := by kernel_rfl
  have e3 : ((Tryz.prog.info? 115).bind (·.zero)).map (·.cells) = some (Array.replicate 64 (.int .u8 0)) := by kernel_rfl
  rw [hi] at e1 e2 e3
  simp only [Option.bind_some, hz, Option.map_some, Option.some.injEq] at e1 e2 e3
  exact ⟨i, z, hi, e1, e2, hz, e3⟩

theorem burn_t {D : DS} (h : D.dead = true ∨ D.fuse = 0) : burnE D = 13 ∧ burnD D = { D with dead := true } := ⟨if_pos h, if_pos h⟩
theorem burn_f {D : DS} (h : D.dead = false) (h2 : D.fuse ≠ 0) : burnE D = 0 ∧ burnD D = { D with fuse := max (D.fuse - 1) (-1) } := by
  have hn : ¬ (D.dead = true ∨ D.fuse = 0) := by rintro (e | e); rw [h] at e; cases e; exact h2 e
  exact ⟨if_neg hn, if_neg hn⟩

theorem new21_calls (n : Nat) (h1 : 1 ≤ n) (h2 : n ≤ 64) (w : World) :
    Calls Tryz.prog 7 [.int .i64 (n : Int)].toArray w fun e w' => ∃ r : DK, True ∧ e = .returned (.tuple #[.pointer (some ⟨r.d, 0, none⟩), .int .i64 0]) ∧ HP w w' [] [(r.d, .cells [(1, [.slice (some ⟨r.s, 0, none⟩) (newD n).n (newD n).n]), (1, [.map (some r.m)]), (1, [.int .i64 (newD n).fuse]), (1, [.bool (newD n).dead])] 74), (r.s, .cells [((newD n).n * 64, iv .u8 (newD n).sure.flatten)] 115), (r.m, .obj (mapO .i64 ((newD n).m.map sE) (newD n).ck))] := by
 refine calls_of_W Tryz.func7 rfl Tryz.ntmps7 rfl rfl (HP.refl w []) ?_
 refine sr ?_
 refine oas ?_
 refine oas ?_
 refine nq ?_
 refine W.seq ?_
 refine sr ?_
 refine omv ?_
 refine ov (v2 V_lss) ?_
 refine omv ?_
 refine oy rfl (decide_eq_false (by omega)) ?_
 refine omv ?_
 refine oy rfl (decide_eq_false (by omega)) ?_
 refine ov (v2 V_gtr) ?_
 refine ov (V_pick_f rfl (decide_eq_false (by omega)) rfl) ?_
 refine nq ?_
 refine W.cond_false rfl (decide_eq_false (by omega)) ?_
 refine W.skip ?_
 refine WQ.then ?_
 refine sr ?_
 refine omv ?_
 refine omkSec slSec (fun b11 => ?_)
 refine omk (fun b12 => ?_)
 refine ov (V_build (by kernel_rfl) (zi (zs := [(1, [.slice none 0 0]), (1, [.map none]), (1, [.int .i64 0]), (1, [.bool false])])) (.one (k := 0) rfl rfl (by kernel_rfl) rfl (.one (k := 1) rfl rfl (by kernel_rfl) rfl (.one (k := 2) rfl rfl (by kernel_rfl) rfl (.nil _))))) ?_
 refine obxa (fun b14 => ?_)
 refine oas ?_
 refine oas ?_
 refine nq ?_
 refine W.ret ?_
 refine WQ.ret2 Tryz.results7 (.tmp rfl) (.tmp rfl) ?_
 intro w' hp; exact ⟨⟨b14, b11, b12⟩, trivial, rfl, hp.cov cov⟩

theorem has21_calls (K : DK) (D : DS) (hok : DOK D) (i : Int) (w : World) (hd : HP w w [K.d, K.s, K.m] [(K.d, .cells [(1, [.slice (some ⟨K.s, 0, none⟩) D.n D.n]), (1, [.map (some K.m)]), (1, [.int .i64 D.fuse]), (1, [.bool D.dead])] 74), (K.s, .cells [(D.n * 64, iv .u8 D.sure.flatten)] 115), (K.m, .obj (mapO .i64 (D.m.map sE) D.ck))]) :
    Calls Tryz.prog 127 [.pointer (some ⟨K.d, 0, none⟩), .int .i64 i].toArray w fun e w' => e = .returned (.bool (inR D i)) ∧ HP w w' [K.d, K.s, K.m] [(K.d, .cells [(1, [.slice (some ⟨K.s, 0, none⟩) D.n D.n]), (1, [.map (some K.m)]), (1, [.int .i64 D.fuse]), (1, [.bool D.dead])] 74), (K.s, .cells [(D.n * 64, iv .u8 D.sure.flatten)] 115), (K.m, .obj (mapO .i64 (D.m.map sE) D.ck))] := by
 have hn1 := hok.n1
 have hn64 := hok.n64
 have hfu := hok.fuse
 have hlen := hok.len
 refine calls_of_W Tryz.func127 rfl Tryz.ntmps127 rfl rfl hd ?_
 refine sr ?_
 refine oas ?_
 refine nx ?_
 refine omv ?_
 refine ov (v2 V_geq) ?_
 refine omv ?_
 refine WL.splitD rfl (fun g1 => ?_) (fun g1 => ?_)
 · refine oy rfl (decide_eq_true g1) ?_
   refine omv ?_
   refine oy rfl (decide_eq_true g1) ?_
   refine omv ?_
   refine oy rfl (decide_eq_true g1) ?_
   refine ov vnil ?_
   refine oy rfl (decide_eq_true g1) ?_
   refine ov (vfa0 0 1) ?_
   refine oy rfl (decide_eq_true g1) ?_
   refine ov vld ?_
   refine oy rfl (decide_eq_true g1) ?_
   refine ov vlenS ?_
   refine oy rfl (decide_eq_true g1) ?_
   refine ov (v2 V_lss) ?_
   refine ov (V_pick_td rfl g1 rfl) ?_
   refine oas ?_
   refine nq ?_
   refine W.ret ?_
   refine WQ.ret1 Tryz.results127 (.tmp rfl) ?_
   intro w' hp; exact ⟨by simp [inR, *], hp.cov cov⟩
 · refine on rfl (decide_eq_false g1) ?_
   refine on rfl (decide_eq_false g1) ?_
   refine on rfl (decide_eq_false g1) ?_
   refine on rfl (decide_eq_false g1) ?_
   refine on rfl (decide_eq_false g1) ?_
   refine on rfl (decide_eq_false g1) ?_
   refine on rfl (decide_eq_false g1) ?_
   refine ov (V_pick_fd rfl g1 rfl) ?_
   refine oas ?_
   refine nq ?_
   refine W.ret ?_
   refine WQ.ret1 Tryz.results127 (.tmp rfl) ?_
   intro w' hp; exact ⟨by simp [inR, *], hp.cov cov⟩

theorem burn21_calls (K : DK) (D : DS) (hok : DOK D) (w : World) (hd : HP w w [K.d, K.s, K.m] [(K.d, .cells [(1, [.slice (some ⟨K.s, 0, none⟩) D.n D.n]), (1, [.map (some K.m)]), (1, [.int .i64 D.fuse]), (1, [.bool D.dead])] 74), (K.s, .cells [(D.n * 64, iv .u8 D.sure.flatten)] 115), (K.m, .obj (mapO .i64 (D.m.map sE) D.ck))]) :
    Calls Tryz.prog 146 [.pointer (some ⟨K.d, 0, none⟩)].toArray w fun e w' => e = .returned (.int .i64 (burnE D)) ∧ HP w w' [K.d, K.s, K.m] [(K.d, .cells [(1, [.slice (some ⟨K.s, 0, none⟩) (burnD D).n (burnD D).n]), (1, [.map (some K.m)]), (1, [.int .i64 (burnD D).fuse]), (1, [.bool (burnD D).dead])] 74), (K.s, .cells [((burnD D).n * 64, iv .u8 (burnD D).sure.flatten)] 115), (K.m, .obj (mapO .i64 ((burnD D).m.map sE) (burnD D).ck))] := by
 have hn1 := hok.n1
 have hn64 := hok.n64
 have hfu := hok.fuse
 have hlen := hok.len
 refine calls_of_W Tryz.func146 rfl Tryz.ntmps146 rfl rfl hd ?_
 refine sr ?_
 refine oas ?_
 refine nx ?_
 refine omv ?_
 refine omv ?_
 refine ov vnil ?_
 refine ov (vfa0 3 1) ?_
 refine ov vld ?_
 refine omv ?_
 refine WL.split rfl (fun g1 => ?_) (fun g1 => ?_)
 · refine on rfl g1 ?_
   refine on rfl g1 ?_
   refine on rfl g1 ?_
   refine on rfl g1 ?_
   refine on rfl g1 ?_
   refine ov (V_pick_t rfl g1 rfl) ?_
   refine ov vnil ?_
   refine ov (vfa0 3 1) ?_
   refine ost ?_
   refine nq ?_
   refine W.seq ?_
   refine sr ?_
   refine omv ?_
   refine ov vnil ?_
   refine ov (vfa0 3 1) ?_
   refine ov vld ?_
   refine nq ?_
   refine W.cond rfl (fun g2 => ?_) (fun g2 => ?_)
   · refine W.seq ?_
     refine W.region ?_
     refine oas ?_
     refine nq ?_
     refine W.ret ?_
     refine WQ.then_ret ?_
     refine WQ.ret1 Tryz.results146 (.tmp rfl) ?_
     intro w' hp; obtain ⟨e1, e2⟩ := burn_t (D := D) (.inl g1)
     rw [e1, e2]; exact ⟨rfl, hp.cov cov⟩
   · refine W.skip ?_
     refine WQ.then ?_
     refine sr ?_
     refine omv ?_
     refine omv ?_
     refine ov vnil ?_
     refine ov (vfa0 2 1) ?_
     refine ov vld ?_
     first | refine ov vsubN ?_ | refine ov vsub ?_
     refine ov (V_max rfl) ?_
     refine ov vnil ?_
     refine ov (vfa0 2 1) ?_
     refine ost ?_
     refine nx ?_
     refine oas ?_
     refine nq ?_
     refine W.ret ?_
     refine WQ.ret1 Tryz.results146 (.tmp rfl) ?_
     exact absurd g2 (by decide)
 · refine oy rfl g1 ?_
   refine omv ?_
   refine oy rfl g1 ?_
   refine ov vnil ?_
   refine oy rfl g1 ?_
   refine ov (vfa0 2 1) ?_
   refine oy rfl g1 ?_
   refine ov vld ?_
   refine oy rfl g1 ?_
   refine ov (v2 V_eql) ?_
   refine ov (V_pick_f rfl g1 rfl) ?_
   refine ov vnil ?_
   refine ov (vfa0 3 1) ?_
   refine ost ?_
   refine nq ?_
   refine W.seq ?_
   refine sr ?_
   refine omv ?_
   refine ov vnil ?_
   refine ov (vfa0 3 1) ?_
   refine ov vld ?_
   refine nq ?_
   refine W.cond rfl (fun g3 => ?_) (fun g3 => ?_)
   · refine W.seq ?_
     refine W.region ?_
     refine oas ?_
     refine nq ?_
     refine W.ret ?_
     refine WQ.then_ret ?_
     refine WQ.ret1 Tryz.results146 (.tmp rfl) ?_
     intro w' hp; obtain ⟨e1, e2⟩ := burn_t (D := D) (.inr (of_decide_eq_true g3))
     rw [g3] at hp; rw [e1, e2]; exact ⟨rfl, hp.cov cov⟩
   · refine W.skip ?_
     refine WQ.then ?_
     refine sr ?_
     refine omv ?_
     refine omv ?_
     refine ov vnil ?_
     refine ov (vfa0 2 1) ?_
     refine ov vld ?_
     first | refine ov vsubN ?_ | refine ov vsub ?_
     refine ov (V_max rfl) ?_
     refine ov vnil ?_
     refine ov (vfa0 2 1) ?_
     refine ost ?_
     refine nx ?_
     refine oas ?_
     refine nq ?_
     refine W.ret ?_
     refine WQ.ret1 Tryz.results146 (.tmp rfl) ?_
     intro w' hp; obtain ⟨e1, e2⟩ := burn_f (D := D) g1 (of_decide_eq_false g3)
     rw [g3] at hp; rw [e1, e2]; dsimp only; rw [g1]; exact ⟨rfl, hp.cov cov⟩

theorem wr_no {D : DS} {i : Int} {s : List Int} (h : inR D i = false) : wrE D i = 1 ∧ wrD D i s = D := by unfold wrE wrD; rw [h]; exact ⟨rfl, rfl⟩
theorem wr_dead {D : DS} {i : Int} {s : List Int} (h : inR D i = true) (h2 : burnE D ≠ 0) : wrE D i = burnE D ∧ wrD D i s = burnD D := by unfold wrE wrD; rw [h, if_pos rfl, if_pos rfl, if_neg h2]; exact ⟨rfl, rfl⟩
theorem wr_ok {D : DS} {i : Int} {s : List Int} (h : inR D i = true) (h2 : burnE D = 0) : wrE D i = 0 ∧ wrD D i s = putD (burnD D) i s := by unfold wrE wrD; rw [h, if_pos rfl, if_pos rfl, if_pos h2]; exact ⟨h2, rfl⟩

theorem write21_calls (K : DK) (D : DS) (hok : DOK D) (i : Int) (s : List Int) (hs : Sec s) (w : World) (hd : HP w w [K.d, K.s, K.m] [(K.d, .cells [(1, [.slice (some ⟨K.s, 0, none⟩) D.n D.n]), (1, [.map (some K.m)]), (1, [.int .i64 D.fuse]), (1, [.bool D.dead])] 74), (K.s, .cells [(D.n * 64, iv .u8 D.sure.flatten)] 115), (K.m, .obj (mapO .i64 (D.m.map sE) D.ck))]) :
    Calls Tryz.prog 134 [.pointer (some ⟨K.d, 0, none⟩), .int .i64 i, AG [(64, iv .u8 s)]].toArray w fun e w' => e = .returned (.int .i64 (wrE D i)) ∧ HP w w' [K.d, K.s, K.m] [(K.d, .cells [(1, [.slice (some ⟨K.s, 0, none⟩) (wrD D i s).n (wrD D i s).n]), (1, [.map (some K.m)]), (1, [.int .i64 (wrD D i s).fuse]), (1, [.bool (wrD D i s).dead])] 74), (K.s, .cells [((wrD D i s).n * 64, iv .u8 (wrD D i s).sure.flatten)] 115), (K.m, .obj (mapO .i64 ((wrD D i s).m.map sE) (wrD D i s).ck))] := by
 have hn1 := hok.n1
 have hn64 := hok.n64
 have hfu := hok.fuse
 have hlen := hok.len
 obtain ⟨hsl, hsb⟩ := hs
 refine calls_of_W Tryz.func134 rfl Tryz.ntmps134 rfl rfl hd ?_
 refine sr ?_
 refine obxa (fun b5 => ?_)
 refine oas ?_
 refine nq ?_
 refine W.seq ?_
 refine sr ?_
 refine omv ?_
 refine omv ?_
 refine cms rfl (fun w hp => has21_calls K D hok i w (HP.here hp cov)) ?_
 refine ov vnot ?_
 refine nq ?_
 refine W.cond rfl (fun g1 => ?_) (fun g1 => ?_)
 · refine W.seq ?_
   refine W.region ?_
   refine oas ?_
   refine nq ?_
   refine W.ret ?_
   refine WQ.then_ret ?_
   refine WQ.ret1 Tryz.results134 (.tmp rfl) ?_
   intro w' hp; obtain ⟨e1, e2⟩ := wr_no (D := D) (i := i) (s := s) (by simpa using g1)
   rw [e1, e2]; exact ⟨rfl, hp.cov cov⟩
 · refine W.skip ?_
   refine WQ.then ?_
   refine W.seq ?_
   refine sr ?_
   refine omv ?_
   refine cms rfl (fun w hp => burn21_calls K D hok w (HP.here hp cov)) ?_
   refine oas ?_
   refine nx ?_
   refine omv ?_
   refine ov (v2 V_neq) ?_
   refine nq ?_
   refine W.cond_dec rfl (fun g2 => ?_) (fun g2 => ?_)
   · refine W.seq ?_
     refine W.region ?_
     refine omv ?_
     refine oas ?_
     refine nq ?_
     refine W.ret ?_
     refine WQ.then_ret ?_
     refine WQ.ret1 Tryz.results134 (.tmp rfl) ?_
     intro w' hp; obtain ⟨e1, e2⟩ := wr_dead (D := D) (i := i) (s := s) (by simpa using g1) (by simpa using g2)
     rw [e1, e2]; exact ⟨rfl, hp.cov cov⟩
   · refine W.skip ?_
     refine WQ.then ?_
     refine W.seq ?_
     refine dr (.q 0 (.q 1 (.q 2 (.q 3 (.q 4 (.q 5 (.l 6 (.done)))))))) [(K.d, _), (b5, _)] ?_
     refine dq rfl (V_move rfl) ?_
     refine dq rfl vnil ?_
     refine dq rfl (vfa0 1 1) ?_
     refine dq rfl vld ?_
     refine dq rfl (V_move rfl) ?_
     refine dq rfl (vlda 64) ?_
     refine WD.l ?_
     refine dmu rfl ?_
     refine WD.done ?_
     refine WQ.then ?_
     refine sr ?_
     refine oas ?_
     refine nq ?_
     refine W.ret ?_
     refine WQ.ret1 Tryz.results134 (.tmp rfl) ?_
     intro w' hp; obtain ⟨e1, e2⟩ := wr_ok (D := D) (i := i) (s := s) (by simpa using g1) (by simpa using g2)
     rw [mput_sE, mclk_sE] at hp; rw [e1, e2]; exact ⟨rfl, hp.cov cov⟩

theorem rd_no {D : DS} {i : Int} (h : inR D i = false) : rdE D i = 1 ∧ rdS D i = List.replicate 64 0 := by unfold rdE rdS; rw [h]; exact ⟨rfl, rfl⟩
theorem rd_new {D : DS} {i : Int} {s : List Int} (h : inR D i = true) (h2 : pget D.m i = some s) : rdE D i = 0 ∧ rdS D i = s := by
  unfold rdE rdS cur
  have hi : 0 ≤ i := by simp [inR] at h; exact h.1
  rw [h, if_pos rfl, if_pos rfl, Int.toNat_of_nonneg hi, h2]; exact ⟨rfl, rfl⟩
theorem rd_sure {D : DS} {i : Int} (h : inR D i = true) (h2 : pget D.m i = none) : rdE D i = 0 ∧ rdS D i = D.sure.getD i.toNat [] := by
  unfold rdE rdS cur
  have hi : 0 ≤ i := by simp [inR] at h; exact h.1
  rw [h, if_pos rfl, if_pos rfl, Int.toNat_of_nonneg hi, h2]; exact ⟨rfl, rfl⟩
theorem mget_some {m : List PEnt} {i : Int} {s : List Int} (h : pget m i = some s) : mget (m.map sE) i = some (AG [(64, iv .u8 s)]) := by rw [mget_sE, h]; rfl
theorem mget_no {m : List PEnt} {i : Int} (h : pget m i = none) : mget (m.map sE) i = none := by rw [mget_sE, h]; rfl
theorem inR_bd {D : DS} {i : Int} (h : inR D i = true) : 0 ≤ i ∧ i < D.n := by simpa [inR] using h

theorem read21_calls (K : DK) (D : DS) (hok : DOK D) (i : Int) (w : World) (hd : HP w w [K.d, K.s, K.m] [(K.d, .cells [(1, [.slice (some ⟨K.s, 0, none⟩) D.n D.n]), (1, [.map (some K.m)]), (1, [.int .i64 D.fuse]), (1, [.bool D.dead])] 74), (K.s, .cells [(D.n * 64, iv .u8 D.sure.flatten)] 115), (K.m, .obj (mapO .i64 (D.m.map sE) D.ck))]) :
    Calls Tryz.prog 100 [.pointer (some ⟨K.d, 0, none⟩), .int .i64 i].toArray w fun e w' => e = .returned (.tuple #[AG [(64, iv .u8 (rdS D i))], .int .i64 (rdE D i)]) ∧ HP w w' [K.d, K.s, K.m] [(K.d, .cells [(1, [.slice (some ⟨K.s, 0, none⟩) D.n D.n]), (1, [.map (some K.m)]), (1, [.int .i64 D.fuse]), (1, [.bool D.dead])] 74), (K.s, .cells [(D.n * 64, iv .u8 D.sure.flatten)] 115), (K.m, .obj (mapO .i64 (D.m.map sE) D.ck))] := by
 have hn1 := hok.n1
 have hn64 := hok.n64
 have hfu := hok.fuse
 have hlen := hok.len
 refine calls_of_W Tryz.func100 rfl Tryz.ntmps100 rfl rfl hd ?_
 refine sr ?_
 refine oal [(64, List.replicate 64 (.int .u8 0))] (fun b4 => ?_)
 refine oas ?_
 refine nq ?_
 refine W.seq ?_
 refine sr ?_
 refine omv ?_
 refine omv ?_
 refine cms rfl (fun w hp => has21_calls K D hok i w (HP.here hp cov)) ?_
 refine ov vnot ?_
 refine nq ?_
 refine W.cond rfl (fun g1 => ?_) (fun g1 => ?_)
 · refine W.seq ?_
   refine W.region ?_
   refine ov (vbI 64 .u8 0 []) ?_
   refine osta 64 ?_
   refine oas ?_
   refine nq ?_
   refine W.ret ?_
   refine WQ.then_ret ?_
   refine WQ.ret2 Tryz.results100 (.cellA 64 (by kernel_rfl) rfl at_ (by rfl)) (.tmp rfl) ?_
   intro w' hp; obtain ⟨e1, e2⟩ := rd_no (D := D) (i := i) (by simpa using g1)
   rw [e1, e2]; exact ⟨rfl, hp.cov cov⟩
 · refine W.skip ?_
   refine WQ.then ?_
   refine W.seq ?_
   refine W.seq ?_
   by_cases hq : ∃ s, pget D.m i = some s
   · obtain ⟨s, hq⟩ := hq
     have hsl : s.length = 64 := by obtain ⟨q, hm⟩ := pget_mem hq; exact (hok.ents _ hm).2.1.1
     have hr : inR D i = true := by simpa using g1
     have hib := inR_bd hr
     obtain ⟨j, rfl⟩ : ∃ j : Nat, i = j := ⟨i.toNat, by omega⟩
     have hgs := hok.get (i := j) (by omega)
     have hgl : (D.sure[j]?.getD []).length = 64 := by rw [← List.getD_eq_getElem?_getD]; exact hgs.1
     refine W.region ?_
     refine omv ?_
     refine ov vnil ?_
     refine ov (vfa0 1 1) ?_
     refine ov vld ?_
     refine omv ?_
     refine ov (vlkS (mget_some hq)) ?_
     refine omv ?_
     refine ov vex ?_
     refine ov vex ?_
     refine oal [(64, List.replicate 64 (.int .u8 0))] (fun b6 => ?_)
     refine osta 64 ?_
     refine oas ?_
     refine nx ?_
     refine omv ?_
     refine nq ?_
     refine W.cond_true rfl rfl ?_
     refine sr ?_
     refine ov (vlda 64) ?_
     refine osta 64 ?_
     refine oas ?_
     refine nq ?_
     refine W.ret ?_
     refine WQ.then_ret ?_
     refine WQ.ret2 Tryz.results100 (.cellA 64 (by kernel_rfl) rfl at_ (by rfl)) (.tmp rfl) ?_
     intro w' hp; obtain ⟨e1, e2⟩ := rd_new (D := D) hr hq
     rw [e1, e2]; exact ⟨rfl, hp.cov cov⟩
   · have hq : pget D.m i = none := by cases hx : pget D.m i with | none => rfl | some s => exact absurd ⟨s, hx⟩ hq
     have hr : inR D i = true := by simpa using g1
     have hib := inR_bd hr
     obtain ⟨j, rfl⟩ : ∃ j : Nat, i = j := ⟨i.toNat, by omega⟩
     have hgs := hok.get (i := j) (by omega)
     have hgl : (D.sure[j]?.getD []).length = 64 := by rw [← List.getD_eq_getElem?_getD]; exact hgs.1
     refine W.region ?_
     refine omv ?_
     refine ov vnil ?_
     refine ov (vfa0 1 1) ?_
     refine ov vld ?_
     refine omv ?_
     refine ov (vlkN 115 (AG [(64, iv .u8 (List.replicate 64 0))]) (mget_no hq)) ?_
     refine omv ?_
     refine ov vex ?_
     refine ov vex ?_
     refine oal [(64, List.replicate 64 (.int .u8 0))] (fun b6 => ?_)
     refine osta 64 ?_
     refine oas ?_
     refine nx ?_
     refine omv ?_
     refine nq ?_
     refine W.cond_false rfl rfl ?_
     refine W.skip ?_
     refine WQ.then ?_
     refine sr ?_
     refine omv ?_
     refine ov vnil ?_
     refine ov (vfa0 0 1) ?_
     refine ov vld ?_
     refine omv ?_
     refine ov (viSec 64) ?_
     refine ov (vldSec 64 hok.l64) ?_
     refine osta 64 ?_
     refine oas ?_
     refine nq ?_
     refine W.ret ?_
     refine WQ.ret2 Tryz.results100 (.cellA 64 (by kernel_rfl) rfl at_ (by rfl)) (.tmp rfl) ?_
     intro w' hp; obtain ⟨e1, e2⟩ := rd_sure (D := D) hr hq
     rw [e1, e2]; exact ⟨rfl, hp.cov cov⟩

end Go.Proofs.YtmeckbjinmgbbaaGreat