/- The journal: the document's answer: Open. -/
import Derived.Test.YtnpnnafcdnefiaaJour6
import Derived.Test.YtnpnnafcdnefiaaRef3
set_option linter.unusedVariables false
set_option linter.unusedSimpArgs false

namespace Go.Proofs.Ytnpnnafcdnefiaa
open Go.X
theorem op_dead {D : DS} {i : Nat} (h : (opG D i).1 = false) : ∀ {k : Nat}, opG D (i + k) = (false, (opG D i).2)
  | 0 => by rw [Nat.add_zero, ← h]
  | k + 1 => by
    have ih := op_dead h (k := k)
    rw [← Nat.add_assoc, op_off (by rw [ih]), ih]
theorem op_stop {D : DS} {i : Nat} (h : (opG D i).1 = true) (h2 : recI i (rdS D i) = false) (hi : i < D.n) : opL D = (opG D i).2 := by
  have e := op_no h h2
  obtain ⟨k, hk⟩ : ∃ k, D.n = (i + 1) + k := ⟨D.n - (i + 1), by omega⟩
  unfold opL
  rw [hk, op_dead (by rw [e]), e]

theorem ropen22_calls (K : RK) (D : DS) (R : RS) (hok : DOK D) (hrl : Rl D R) (w : World) (hr : HP w w [K.d, K.s, K.x, K.i] [(K.d, .cells [(1, [.slice (some ⟨K.s, 0, none⟩) R.n R.n]), (1, [.slice (some ⟨K.x, 0, none⟩) R.n R.n]), (1, [.slice (some ⟨K.i, 0, none⟩) R.n R.n]), (1, [.int .i64 R.fuse]), (1, [.bool R.dead])] 130), (K.s, .cells [(R.n * 64, iv .u8 R.sure.flatten)] 72), (K.x, .cells [(R.n * 64, iv .u8 R.new.flatten)] 72), (K.i, .cells [(R.n, bv R.iss), (R.n - R.n, [])] 4)]) :
    Calls Try.prog 45 [.pointer (some ⟨K.d, 0, none⟩)].toArray w fun e w' => ∃ r : Nat × GR, (r.2.OK ∧ r.2.ll = opL D) ∧ e = .returned (.tuple #[.pointer (some ⟨r.1, 0, none⟩), .int .i64 0]) ∧ HP w w' (((K.d, .cells [(1, [.slice (some ⟨K.s, 0, none⟩) R.n R.n]), (1, [.slice (some ⟨K.x, 0, none⟩) R.n R.n]), (1, [.slice (some ⟨K.i, 0, none⟩) R.n R.n]), (1, [.int .i64 R.fuse]), (1, [.bool R.dead])] 130) :: (K.s, .cells [(R.n * 64, iv .u8 R.sure.flatten)] 72) :: (K.x, .cells [(R.n * 64, iv .u8 R.new.flatten)] 72) :: (K.i, .cells [(R.n, bv R.iss), (R.n - R.n, [])] 4) :: [] : List (Nat × Blk)).map (·.1)) ((K.d, .cells [(1, [.slice (some ⟨K.s, 0, none⟩) R.n R.n]), (1, [.slice (some ⟨K.x, 0, none⟩) R.n R.n]), (1, [.slice (some ⟨K.i, 0, none⟩) R.n R.n]), (1, [.int .i64 R.fuse]), (1, [.bool R.dead])] 130) :: (K.s, .cells [(R.n * 64, iv .u8 R.sure.flatten)] 72) :: (K.x, .cells [(R.n * 64, iv .u8 R.new.flatten)] 72) :: (K.i, .cells [(R.n, bv R.iss), (R.n - R.n, [])] 4) :: (r.1, .cells [(1, [.pointer (some ⟨K.d, 0, none⟩)]), (1, [.slice (gA r.2.o) r.2.rs.length (gC r.2.o)])] 88) :: gRL 5 31 r.2 : List (Nat × Blk)) := by
 have hn1 := hok.n1
 have hn64 := hok.n64
 obtain ⟨rn, rsu, rfu, rde, rnl, rns, ril, ris, rnw⟩ := id hrl
 refine calls_of_W Try.func45 rfl Try.ntmps45 rfl rfl hr ?_
 refine sr ?_
 refine oas ?_
 refine oas ?_
 refine nq ?_
 refine W.seq ?_
 refine sr ?_
 refine omv ?_
 refine ov (V_eqlP (by kernel_rfl) rfl rfl) ?_
 refine nq ?_
 refine W.cond_false rfl rfl ?_
 refine W.skip ?_
 refine WQ.then ?_
 refine sr ?_
 refine omv ?_
 refine ov (V_build (by kernel_rfl) (zi (zs := [(1, [.pointer none]), (1, [.slice none 0 0])])) (.one (k := 0) rfl rfl (by kernel_rfl) rfl (.nil _))) ?_
 refine obxa (fun b14 => ?_)
 refine oas ?_
 refine nq ?_
 refine W.seq ?_
 refine sr ?_
 refine oas ?_
 refine nq ?_
 refine W.block ?_
 -- LOOP 0
 refine W.pick (S' := [(5, _), (0, _), (2, _), (3, _), (4, _), (11, _)]) [5, 0, 2, 3, 4, 11] rfl ?_
 refine W.loopG (σ := Nat × GR) (fun ⟨i, g⟩ => i ≤ D.n ∧ g.OK ∧ (opG D i).1 = true ∧ g.ll = (opG D i).2) (fun ⟨i, g⟩ => [(5, .int .i64 (i : Nat))]) (fun ⟨i, g⟩ => [(b14, .cells [(1, [.pointer (some ⟨K.d, 0, none⟩)]), (1, [.slice (gA g.o) g.rs.length (gC g.o)])] 88)]) [(K.d, _), (K.s, _), (K.x, _), (K.i, _)] (fun ⟨i, g⟩ => gRL 5 31 g) (fun ⟨i, g⟩ => D.n - i) (0, GR.nil) rfl cov ⟨Nat.zero_le _, GR.nil_ok, rfl, rfl⟩ ?_
 rintro ⟨i, g⟩ ⟨hi, hg, hgs, hgl⟩; dsimp only at hi hg hgs hgl ⊢; have hsl := (rdS_sec hok (i := i)).1; have hgn : g.rs.length ≤ i := by rw [← GR.ll_len, hgl]; exact opG_len
 refine W.seq ?_
 refine sr ?_
 refine omv ?_
 refine omv ?_
 refine ov vnil ?_
 refine ov (vfa0 0 1) ?_
 refine ov vld ?_
 refine ov vlenS ?_
 refine ov (v2 V_lss) ?_
 refine nq ?_
 refine W.cond_dec rfl (fun g1 => ?_) (fun g1 => ?_)
 · refine W.skip ?_
   refine WQ.then ?_
   refine W.seq ?_
   refine W.block ?_
   refine sr ?_
   refine omv ?_
   refine omv ?_
   refine cms rfl (fun w hp => rread21_calls K D R hok hrl i w (HP.here hp cov)) ?_
   refine omv ?_
   refine ov vex ?_
   refine ov vex ?_
   refine oal [(64, iv .u8 (List.replicate 64 0))] (fun b6 => ?_)
   refine osta 64 ?_
   refine oas ?_
   refine nx ?_
   refine omv ?_
   refine ov (vlda 64) ?_
   refine cgG rfl (fun w hp => rrecord22_calls i sc (rdS D i) (rdS_sec hok) w) (fun o33 h33 => ?_)
   refine omv ?_
   refine ov vex ?_
   refine ov vex ?_
   refine oas ?_
   refine oas ?_
   refine nq ?_
   refine W.seq ?_
   refine sr ?_
   refine omv ?_
   refine ov vnot ?_
   refine nq ?_
   refine W.cond rfl (fun g2 => ?_) (fun g2 => ?_)
   · refine W.seq ?_
     refine W.region ?_
     refine omv ?_
     refine oas ?_
     refine oas ?_
     refine nq ?_
     refine W.ret ?_
     refine WQ.then_ret ?_
     refine WQ.block_ret ?_
     refine WQ.then_ret ?_
     refine WQ.then_ret ?_
     refine WQ.block_ret ?_
     refine WQ.then_ret ?_
     refine WQ.ret2 Try.results45 (.tmp rfl) (.tmp rfl) ?_
     intro w' hp; exact ⟨(b14, g), ⟨hg, by rw [op_stop hgs (by simpa using g2) (by omega)]; exact hgl⟩, rfl, hp.cov cov⟩
   · refine W.skip ?_
     refine WQ.then ?_
     obtain ⟨rb, rc, rr, ho33⟩ : ∃ b c r, o33 = some (b, c, r) := by
       cases o33 with
       | none => exact absurd rfl (h33.2 (by simpa using g2))
       | some q => exact ⟨_, _, _, rfl⟩
     subst ho33
     have hrc : (recB (rdS D i)).length ≤ rc := h33.1
     have hrI : recI i (rdS D i) = true := by simpa using g2
     dsimp only [gL, List.cons_append, List.nil_append]
     refine W.region ?_
     refine omv ?_
     refine omv ?_
     refine ov vnil ?_
     refine ov (vfa0 1 1) ?_
     refine ov vld ?_
     refine omv ?_
     refine obs 31 24 (fun b45 => ?_)
     refine oapR (r := ⟨rb, (recB (rdS D i)).length, rc, rr, recB (rdS D i)⟩) 5 31 24 (fun o46 h46 => ?_) (hr := ⟨rfl, hrc, recB_bytes (rdS_sec hok).2⟩)
     refine ov vnil ?_
     refine ov (vfa0 1 1) ?_
     refine ost ?_
     refine WL.nil ?_
     refine WQ.block_normal ?_
     refine WQ.then ?_
     refine W.region ?_
     refine omv ?_
     first | refine ov vaddN ?_ | refine ov vadd ?_
     refine oas ?_
     refine WL.nil ?_
     exact ag (i + 1, ⟨o46, g.rs ++ [⟨rb, (recB (rdS D i)).length, rc, rr, recB (rdS D i)⟩]⟩) [5, 0, 2, 3, 4, 11] (by (try dsimp only); exact ⟨by omega, h46, by rw [op_yes hgs hrI], by rw [op_yes hgs hrI, ← hgl]; simp [GR.ll]⟩) (by (try dsimp only); omega) rfl cov
 · refine W.exit ?_
   refine WQ.then_exit ?_
   refine WQ.then_exit ?_
   refine WQ.block_hit ?_
   refine WQ.then ?_
   refine sr ?_
   refine omv ?_
   refine oas ?_
   refine oas ?_
   refine nq ?_
   refine W.ret ?_
   refine WQ.ret2 Try.results45 (.tmp rfl) (.tmp rfl) ?_
   intro w' hp; obtain rfl : i = D.n := by omega
   exact ⟨(b14, g), ⟨hg, hgl⟩, rfl, hp.cov cov⟩

end Go.Proofs.Ytnpnnafcdnefiaa