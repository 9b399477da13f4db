/- Disks: the document's answer: Crash. -/
import Derived.Test.YtnpnnafcdnefiaaRef3
set_option linter.unusedVariables false
set_option linter.unusedSimpArgs false

namespace Go.Proofs.Ytnpnnafcdnefiaa
open Go.X
theorem andI_1 {x : Int} (h : 0 ≤ x) (h2 : x ≤ 18446744073709551615) : andI .u64 x 1 = x % 2 := by
  obtain ⟨n, rfl⟩ : ∃ n : Nat, x = n := ⟨x.toNat, by omega⟩
  have e : (BitVec.ofInt 64 (n : Int) &&& BitVec.ofInt 64 1).toNat = n % 2 := by
    rw [BitVec.toNat_and]
    have e1 : (BitVec.ofInt 64 (n : Int)).toNat = n := by rw [BitVec.toNat_ofInt]; omega
    have e2 : (BitVec.ofInt 64 1).toNat = 2 ^ 1 - 1 := by decide
    rw [e1, e2, Nat.and_two_pow_sub_one_eq_mod]
  show IntKind.u64.wrap (((BitVec.ofInt 64 (n : Int) &&& BitVec.ofInt 64 1).toNat : Nat) : Int) = _
  rw [e, IntKind.wrap_u64]
  omega
theorem shrI_bd {x : Int} {i : Nat} (h : 0 ≤ x ∧ x ≤ 18446744073709551615) : 0 ≤ shrI .u64 x i ∧ shrI .u64 x i ≤ 18446744073709551615 := by
  unfold shrI
  have hp : (0 : Int) < 2 ^ min (i : Int).toNat (IntKind.bits .u64) := Int.pow_pos (by decide)
  rw [Int.fdiv_eq_ediv_of_nonneg _ (Int.le_of_lt hp)]
  refine ⟨Int.ediv_nonneg h.1 (Int.le_of_lt hp), Int.le_trans (Int.ediv_le_self _ h.1) h.2⟩
theorem bit_rem {kept : Int} {i : Nat} (h : 0 ≤ kept ∧ kept ≤ 18446744073709551615) : bitB kept i = decide (shrI .u64 kept i % 2 = 1) := by
  have := shrI_bd (i := i) h
  unfold bitB; rw [andI_1 this.1 this.2]
structure CrI (D : DS) (R : RS) (i : Nat) (bs : List Bool) : Prop where
  blen : bs.length = D.n
  bget : ∀ j : Nat, j < D.n → bs.getD j false = (R.iss.getD j false && decide ((j : Int) ∉ (pend D).take i))
theorem CrI.start {D : DS} {R : RS} (h : Rl D R) : CrI D R 0 R.iss := ⟨h.ilen, fun j _ => by simp⟩
theorem CrI.next {D : DS} {R : RS} {i : Nat} {bs : List Bool} (hok : DOK D) (hi : i < D.m.length) (h : CrI D R i bs) : CrI D R (i + 1) (bs.set ((pend D).getD i 0).toNat false) := by
  obtain ⟨h1, h2⟩ := h
  obtain ⟨s, _, hb, _, _⟩ := pend_mem hok hi
  have hil : i < (pend D).length := by rw [pend_len]; exact hi
  have hg : (pend D).getD i 0 = (pend D)[i] := by rw [List.getD_eq_getElem?_getD, List.getElem?_eq_getElem hil]; rfl
  refine ⟨by simp [h1], fun j hj => ?_⟩
  have hmem : ((j : Int) ∈ (pend D).take (i + 1)) = ((j : Int) ∈ (pend D).take i ∨ (j : Int) = (pend D)[i]) := by
    rw [List.take_add_one, List.getElem?_eq_getElem hil]
    simp only [List.mem_append, Option.toList_some, List.mem_singleton]
  rw [getD_set (by omega), h2 j hj]
  simp only [hmem]
  by_cases e : ((pend D).getD i 0).toNat = j
  · rw [if_pos e]
    have : (j : Int) = (pend D)[i] := by rw [← hg]; omega
    simp [this]
  · rw [if_neg e]
    have : ¬ (j : Int) = (pend D)[i] := by rw [← hg]; omega
    simp [this]
theorem CrI.done {D : DS} {R : RS} {bs : List Bool} {kept : Int} (hok : DOK D) (hr : Rl D R) (h : CrI D R D.m.length bs) : Rl (crD D kept) { R with sure := crashN D kept D.m.length, iss := bs, fuse := -1, dead := false } := by
  obtain ⟨h1, h2⟩ := h
  refine ⟨hr.n, rfl, rfl, rfl, hr.nlen, hr.news, h1, fun i hi => ?_, fun i s hx => by cases hx⟩
  show bs.getD i false = false
  have hi' : i < D.n := hi
  rw [h2 i hi', hr.is_ i hi']
  cases hq : pget D.m i with
  | none => rfl
  | some s =>
    obtain ⟨n, hn⟩ := pget_mem hq
    have hm : (i : Int) ∈ pend D := pend_perm.symm.subset (List.mem_map.2 ⟨_, hn, rfl⟩)
    rw [← pend_len, List.take_length]
    simp [hm]

theorem rcrash21_calls (K : RK) (D : DS) (R : RS) (hok : DOK D) (hrl : Rl D R) (kept : Int) (hkb : 0 ≤ kept ∧ kept ≤ 18446744073709551615) (w : World) (hr : HP w w [K.d, K.s, K.x, K.i] [(K.d, .cells [(1, [.slice (some ⟨K.s, 0, none⟩) R.n R.n]), (1, [.slice (some ⟨K.x, 0, none⟩) R.n R.n]), (1, [.slice (some ⟨K.i, 0, none⟩) R.n R.n]), (1, [.int .i64 R.fuse]), (1, [.bool R.dead])] 130), (K.s, .cells [(R.n * 64, iv .u8 R.sure.flatten)] 72), (K.x, .cells [(R.n * 64, iv .u8 R.new.flatten)] 72), (K.i, .cells [(R.n, bv R.iss), (R.n - R.n, [])] 4)]) :
    Calls Try.prog 40 [.pointer (some ⟨K.d, 0, none⟩), .int .u64 kept].toArray w fun e w' => ∃ r : RS, Rl (crD D kept) r ∧ e = .returned (.tuple #[]) ∧ HP w w' [K.d, K.s, K.x, K.i] [(K.d, .cells [(1, [.slice (some ⟨K.s, 0, none⟩) r.n r.n]), (1, [.slice (some ⟨K.x, 0, none⟩) r.n r.n]), (1, [.slice (some ⟨K.i, 0, none⟩) r.n r.n]), (1, [.int .i64 r.fuse]), (1, [.bool r.dead])] 130), (K.s, .cells [(r.n * 64, iv .u8 r.sure.flatten)] 72), (K.x, .cells [(r.n * 64, iv .u8 r.new.flatten)] 72), (K.i, .cells [(r.n, bv r.iss), (r.n - r.n, [])] 4)] := by
 have hn1 := hok.n1
 have hn64 := hok.n64
 have hfu := hok.fuse
 have hlen := hok.len
 have hml := ents_le hok
 have hpl := pend_len (D := D)
 obtain ⟨rn, rsu, rfu, rde, rnl, rns, ril, ris, rnw⟩ := id hrl
 have hel : ∀ l ∈ R.new, l.length = 64 := fun l hl => (rns l hl).1
 refine calls_of_W Try.func40 rfl Try.ntmps40 rfl rfl hr ?_
 refine sr ?_
 refine omv ?_
 refine cgX rfl (fun w hp => rpend21_calls K D R hok hrl w (HP.here hp cov)) (fun b7 h7 => ?_)
 refine oas ?_
 refine nq ?_
 refine W.seq ?_
 refine W.seq ?_
 rw [show R.sure = crashN D kept 0 from rsu]
 refine W.region ?_
 refine oas ?_
 refine nq ?_
 refine W.block ?_
 -- LOOP 0
 refine W.pick (S' := [(5, _), (0, _), (1, _), (4, _)]) [5, 0, 1, 4] rfl ?_
 refine W.loopG (σ := Nat × List Bool) (fun ⟨i, bs⟩ => i ≤ D.m.length ∧ CrI D R i bs) (fun ⟨i, bs⟩ => [(5, .int .i64 (i : Nat))]) (fun ⟨i, bs⟩ => [(K.s, .cells [(R.n * 64, iv .u8 (crashN D kept i).flatten)] 72), (K.i, .cells [(R.n, bv bs), (R.n - R.n, [])] 4)]) [(K.d, _), (K.x, _)] (fun ⟨i, bs⟩ => gL b7 D.m.length (iv .i64 (pend D)) 3) (fun ⟨i, bs⟩ => D.m.length - i) (0, R.iss) rfl cov ⟨Nat.zero_le _, CrI.start hrl⟩ ?_
 rintro ⟨i, bs⟩ ⟨hi, hcr⟩; dsimp only at hi hcr ⊢
 refine W.seq ?_
 refine sr ?_
 refine omv ?_
 refine omv ?_
 refine ov vlenS ?_
 refine ov (v2 V_lss) ?_
 refine nq ?_
 refine W.cond_dec rfl (fun g1 => ?_) (fun g1 => ?_)
 · refine W.skip ?_
   refine WQ.then ?_
   refine W.seq ?_
   refine W.block ?_
   refine W.seq ?_
   refine W.seq ?_
   obtain ⟨gb, gc, gr, rfl⟩ : ∃ b c r, b7 = some (b, c, r) := by
     cases b7 with
     | none => exact absurd h7 (by show ¬ D.m.length = 0; omega)
     | some q => exact ⟨_, _, _, rfl⟩
   simp only [gL, gA, gC]
   obtain ⟨sx, hq1, hq2, hq3, hq4⟩ := pend_mem hok (i := i) (by omega)
   have hnx : R.new.getD ((pend D).getD i 0).toNat [] = sx := rnw _ _ (by rw [Int.toNat_of_nonneg hq2.1]; exact hq1)
   have hsx := hq3.1
   have hgl : (R.new[((pend D).getD i 0).toNat]?.getD []).length = 64 := by rw [← List.getD_eq_getElem?_getD, hnx]; exact hsx
   have hgl2 : (R.new.getD ((pend D).getD i 0).toNat []).length = 64 := by rw [hnx]; exact hsx
   have hbl := hcr.blen
   have hcl := crashN_len (D := D) (kept := kept) (i := i)
   have hcs : ∀ l ∈ crashN D kept i, l.length = 64 := fun l hl => (crashN_sec hok (by omega) l hl).1
   have hsb := shrI_bd (i := i) hkb
   refine W.region ?_
   refine omv ?_
   refine omv ?_
   refine ov (V_shr rfl rfl (by omega)) ?_
   first | refine ov vrem ?_ | refine ov (V_rem rfl rfl (by omega)) ?_
   refine ov (v2 V_eql) ?_
   refine nq ?_
   refine W.cond_dec rfl (fun g2 => ?_) (fun g2 => ?_)
   · have g2b : bitB kept i = true := by rw [bit_rem hkb]; exact decide_eq_true (by assumption)
     have hst : R.new.getD ((pend D).getD i 0).toNat [] = cur D ((pend D).getD i 0).toNat := hnx.trans hq4.symm
     refine dr (.q 0 (.q 1 (.q 2 (.q 3 (.q 4 (.q 5 (.q 6 (.q 7 (.q 8 (.q 9 (.q 10 (.q 11 (.q 12 (.q 13 (.q 14 (.q 15 (.q 16 (.q 17 (.q 18 (.l 19 (.done))))))))))))))))))))) [(K.d, _), (K.x, _), (gb, _)] ?_
     refine dq rfl (V_move rfl) ?_
     refine dq rfl vnil ?_
     refine dq rfl (vfa0 0 1) ?_
     refine dq rfl vld ?_
     refine dq rfl (V_move rfl) ?_
     refine dq rfl (V_move rfl) ?_
     refine dq rfl viB ?_
     refine dq rfl vldI ?_
     refine dq rfl (V_move rfl) ?_
     refine dq rfl vnil ?_
     refine dq rfl (vfa0 1 1) ?_
     refine dq rfl vld ?_
     refine dq rfl (V_move rfl) ?_
     refine dq rfl (V_move rfl) ?_
     refine dq rfl viB ?_
     refine dq rfl vldI ?_
     refine dq rfl (viSecZ 64) ?_
     refine dq rfl (vldSec 64 hel) ?_
     refine dq rfl (viSecZ 64) ?_
     refine WD.l ?_
     refine dstSec 64 hcs rfl ?_
     refine WD.done ?_
     refine WQ.then ?_
     refine dr (.q 0 (.q 1 (.q 2 (.q 3 (.q 4 (.q 5 (.q 6 (.q 7 (.q 8 (.l 9 (.done))))))))))) [(K.d, _), (gb, _)] ?_
     refine dq rfl (V_move rfl) ?_
     refine dq rfl vnil ?_
     refine dq rfl (vfa0 2 1) ?_
     refine dq rfl vld ?_
     refine dq rfl (V_move rfl) ?_
     refine dq rfl (V_move rfl) ?_
     refine dq rfl viB ?_
     refine dq rfl vldI ?_
     refine dq rfl viBZ ?_
     refine WD.l ?_
     refine dstBo (l := bs) rfl ?_
     refine WD.done ?_
     refine WQ.block_normal ?_
     refine WQ.then ?_
     refine W.region ?_
     refine omv ?_
     first | refine ov vaddN ?_ | refine ov vadd ?_
     refine oas ?_
     refine WL.nil ?_
     rw [hst, crash_yes g2b]
     exact ag (i + 1, bs.set ((pend D).getD i 0).toNat false) [5, 0, 1, 4] (by (try dsimp only); exact ⟨by omega, hcr.next hok (by omega)⟩) (by (try dsimp only); omega) rfl cov
   · refine W.skip ?_
     refine WQ.then ?_
     refine dr (.q 0 (.q 1 (.q 2 (.q 3 (.q 4 (.q 5 (.q 6 (.q 7 (.q 8 (.l 9 (.done))))))))))) [(K.d, _), (gb, _)] ?_
     refine dq rfl (V_move rfl) ?_
     refine dq rfl vnil ?_
     refine dq rfl (vfa0 2 1) ?_
     refine dq rfl vld ?_
     refine dq rfl (V_move rfl) ?_
     refine dq rfl (V_move rfl) ?_
     refine dq rfl viB ?_
     refine dq rfl vldI ?_
     refine dq rfl viBZ ?_
     refine WD.l ?_
     refine dstBo (l := bs) rfl ?_
     refine WD.done ?_
     refine WQ.block_normal ?_
     refine WQ.then ?_
     refine W.region ?_
     refine omv ?_
     first | refine ov vaddN ?_ | refine ov vadd ?_
     refine oas ?_
     refine WL.nil ?_
     have g2b : bitB kept i = false := by rw [bit_rem hkb]; exact decide_eq_false (by assumption)
     rw [crash_no g2b]
     exact ag (i + 1, bs.set ((pend D).getD i 0).toNat false) [5, 0, 1, 4] (by (try dsimp only); exact ⟨by omega, hcr.next hok (by omega)⟩) (by (try dsimp only); omega) rfl cov
 · refine W.exit ?_
   refine WQ.then_exit ?_
   refine WQ.then_exit ?_
   refine WQ.block_hit ?_
   refine WQ.then ?_
   refine sr ?_
   refine omv ?_
   refine ov vnil ?_
   refine ov (vfa0 4 1) ?_
   refine ost ?_
   refine nq ?_
   refine W.region ?_
   refine omv ?_
   refine ov vnil ?_
   refine ov (vfa0 3 1) ?_
   refine ost ?_
   refine WL.nil ?_
   refine WQ.ret0 (.inr rfl) Try.results40 ?_
   intro w' hp; obtain rfl : i = D.m.length := by omega
   exact ⟨_, hcr.done hok hrl, rfl, hp.cov cov⟩

end Go.Proofs.Ytnpnnafcdnefiaa