/- The journal: Open. -/
import Derived.Test.YtnpnnafcdnefiaaJour4
import Derived.Test.YtnpnnafcdnefiaaXC
set_option linter.unusedVariables false
set_option linter.unusedSimpArgs false

namespace Go.Proofs.Ytnpnnafcdnefiaa
open Go.X
/-- What was read of the first sectors: whether it goes on, the records. -/
def opG (D : DS) : Nat → Bool × List (List Int)
  | 0 => (true, [])
  | i + 1 => if (opG D i).1 && recI i (rdS D i) then (true, (opG D i).2 ++ [recB (rdS D i)]) else (false, (opG D i).2)
def opL (D : DS) : List (List Int) := (opG D D.n).2
theorem recB_bytes {s : List Int} (h : bytes s) : bytes (recB s) := by
  unfold recB; split
  · exact (h.drop 5).take _
  · exact bytes_nil
theorem op_yes {D : DS} {i : Nat} (h : (opG D i).1 = true) (h2 : recI i (rdS D i) = true) : opG D (i + 1) = (true, (opG D i).2 ++ [recB (rdS D i)]) := by rw [opG, h, h2]; rfl
theorem op_no {D : DS} {i : Nat} (h : (opG D i).1 = true) (h2 : recI i (rdS D i) = false) : opG D (i + 1) = (false, (opG D i).2) := by rw [opG, h, h2]; rfl
theorem op_off {D : DS} {i : Nat} (h : (opG D i).1 = false) : opG D (i + 1) = (false, (opG D i).2) := by rw [opG, h]; rfl
theorem opG_len {D : DS} : ∀ {i : Nat}, (opG D i).2.length ≤ i
  | 0 => Nat.le_refl _
  | i + 1 => by have := opG_len (D := D) (i := i); rw [opG]; split <;> simp <;> omega
theorem opG_ok {D : DS} (hok : DOK D) : ∀ {i : Nat}, ∀ l ∈ (opG D i).2, l.length ≤ 59 ∧ bytes l
  | 0, l, h => by cases h
  | i + 1, l, h => by
    rw [opG] at h
    split at h
    · rcases List.mem_append.1 h with h | h
      · exact opG_ok hok l h
      · rw [List.mem_singleton.1 h]
        refine ⟨recB_le, ?_⟩
        unfold recB; split
        · exact ((rdS_sec hok).2.drop 5).take _
        · exact bytes_nil
    · exact opG_ok hok l h
theorem opL_len {D : DS} : (opL D).length ≤ D.n := opG_len
theorem opL_ok {D : DS} (hok : DOK D) : ∀ l ∈ opL D, l.length ≤ 59 ∧ bytes l := opG_ok hok
/-- The journal that is being opened, when so many sectors were gone through. -/
def OpB (K : DK) (jb b4 b5 : Nat) (i : Nat) (gs : Bool) (g : GR) : List (Nat × Blk) :=
  (jb, .cells [(1, [.pointer (some ⟨K.d, 0, none⟩)]), (1, [.int .i64 0]), (1, [.int .i64 (i : Nat)]), (1, [.slice (gA g.o) g.rs.length (gC g.o)])] 103) :: (b4, .cells [(1, [.pointer (some ⟨jb, 0, none⟩)])] 27) :: (b5, .cells [(1, [.bool gs])] 4) :: gRL 5 31 g
def OpG (D : DS) (K : DK) (jb b4 b5 : Nat) (i : Nat) (Lx : List (Nat × Blk)) : Prop := ∃ (gs : Bool) (g : GR), gs = (opG D i).1 ∧ g.ll = (opG D i).2 ∧ g.OK ∧ Lx = OpB K jb b4 b5 i gs g

theorem open22_calls (K : DK) (D : DS) (hok : DOK D) (w : World) (hd : HP w w [K.d, K.s, K.m] [(K.d, .cells [(1, [.slice (some ⟨K.s, 0, none⟩) D.n D.n]), (1, [.map (some K.m)]), (1, [.int .i64 D.fuse]), (1, [.bool D.dead])] 101), (K.s, .cells [(D.n * 64, iv .u8 D.sure.flatten)] 58), (K.m, .obj (mapO .i64 (D.m.map sE) D.ck))]) :
    Calls Try.prog 17 [.pointer (some ⟨K.d, 0, none⟩)].toArray w fun e w' => ∃ r : Nat × GR, (r.2.OK ∧ r.2.ll = opL D) ∧ e = .returned (.tuple #[.pointer (some ⟨r.1, 0, none⟩), .int .i64 0]) ∧ HP w w' (((K.d, .cells [(1, [.slice (some ⟨K.s, 0, none⟩) D.n D.n]), (1, [.map (some K.m)]), (1, [.int .i64 D.fuse]), (1, [.bool D.dead])] 101) :: (K.s, .cells [(D.n * 64, iv .u8 D.sure.flatten)] 58) :: (K.m, .obj (mapO .i64 (D.m.map sE) D.ck)) :: [] : List (Nat × Blk)).map (·.1)) ((K.d, .cells [(1, [.slice (some ⟨K.s, 0, none⟩) D.n D.n]), (1, [.map (some K.m)]), (1, [.int .i64 D.fuse]), (1, [.bool D.dead])] 101) :: (K.s, .cells [(D.n * 64, iv .u8 D.sure.flatten)] 58) :: (K.m, .obj (mapO .i64 (D.m.map sE) D.ck)) :: (r.1, .cells [(1, [.pointer (some ⟨K.d, 0, none⟩)]), (1, [.int .i64 (r.2.rs.length : Nat)]), (1, [.int .i64 (D.n : Nat)]), (1, [.slice (gA r.2.o) r.2.rs.length (gC r.2.o)])] 103) :: gRL 5 31 r.2 : List (Nat × Blk)) := by
 have hn1 := hok.n1
 have hn64 := hok.n64
 refine calls_of_WM Try.func17 rfl Try.ntmps17 rfl rfl hd ?_
 refine sr ?_
 refine oas ?_
 refine oas ?_
 refine nq ?_
 refine W.seq ?_
 refine sr ?_
 refine omv ?_
 refine ov (V_eqlP (by kernel_rfl) rfl rfl) ?_
 refine nq ?_
 refine W.cond_false rfl rfl ?_
 refine W.skip ?_
 refine WQ.then ?_
 refine sr ?_
 refine omv ?_
 refine ov (V_build (by kernel_rfl) (zi (zs := [(1, [.pointer none]), (1, [.int .i64 0]), (1, [.int .i64 0]), (1, [.slice none 0 0])])) (.one (k := 0) rfl rfl (by kernel_rfl) rfl (.nil _))) ?_
 refine obxa (fun b14 => ?_)
 refine oal [(1, [.pointer none])] (fun b4 => ?_)
 refine ost ?_
 refine nx ?_
 refine oal [(1, [.bool false])] (fun b5 => ?_)
 refine ost ?_
 refine nq ?_
 refine W.ofWI ?_
 refine WI.seq ?_
 refine WI.seq ?_
 refine ireg ?_
 refine omv ?_
 refine cg rfl (fun w hp => sectors22_calls _ w) (fun b16 h16 => ?_)
 refine inl ?_
 refine WIQ.then ?_
 refine WI.block ?_
 refine WI.range (R := fun pe L' => pe = none ∧ ∃ Lx', L' = ((b16, .cells [(1, [.pointer (some ⟨K.d, 0, none⟩)])] 23) :: (K.d, .cells [(1, [.slice (some ⟨K.s, 0, none⟩) D.n D.n]), (1, [.map (some K.m)]), (1, [.int .i64 D.fuse]), (1, [.bool D.dead])] 101) :: (K.s, .cells [(D.n * 64, iv .u8 D.sure.flatten)] 58) :: (K.m, .obj (mapO .i64 (D.m.map sE) D.ck)) :: Lx') ∧ OpG D K b14 b4 b5 D.n Lx') rfl (by kernel_rfl) ?_ ?_ ?_
 · intro fn l D0 tm hsl w1 hp1
   refine secs22_calls w _ K D hok b16 l D0 fn tm _ _ _ rfl (OpG D K b14 b4 b5) ?_ (OpB K b14 b4 b5 0 true GR.nil) ⟨true, GR.nil, rfl, rfl, GR.nil_ok, rfl⟩ w1 (by unfold OpB; exact hp1.cov cov)
   rintro i Lx hi ⟨gs, g, hgs, hgl, hg, rfl⟩
   have hsl2 := (rdS_sec hok (i := i)).1
   have hgn : g.rs.length ≤ i := by rw [← GR.ll_len, hgl]; exact opG_len
   unfold OpB
   refine Rd.n (rd2 hsl rfl rfl ?_)
   refine WI.seq ?_
   refine ireg ?_
   refine oas ?_
   refine inl ?_
   refine WIQ.then ?_
   refine ireg ?_
   refine oal [(64, List.replicate 64 (.int .u8 0))] (fun b7 => ?_)
   refine osta 64 ?_
   refine inl ?_
   refine begins ?_
   refine WI.block ?_
   refine WI.seq ?_
   refine ireg ?_
   refine ov vld ?_
   refine omv ?_
   first | refine ov vaddN ?_ | refine ov vadd ?_
   refine ov vnil ?_
   refine ov (vfa 2 1) ?_
   refine ost ?_
   refine inl ?_
   refine WIQ.then ?_
   refine WI.seq ?_
   refine ireg ?_
   refine omv ?_
   refine ov (vlda 64) ?_
   refine cgG rfl (fun w hp => record22_calls i sc (rdS D i) (rdS_sec hok) w) (fun o27 h27 => ?_)
   refine omv ?_
   refine ov vex ?_
   refine ov vex ?_
   refine oas ?_
   refine oas ?_
   refine inl ?_
   refine WIQ.then ?_
   refine WI.seq ?_
   by_cases hc0 : gs = true
   · subst hc0
     refine ireg ?_
     refine ov vld ?_
     refine omv ?_
     refine oy rfl rfl ?_
     refine omv ?_
     refine ov (V_pick_t rfl rfl rfl) ?_
     refine ost ?_
     refine inl ?_
     refine WIQ.then ?_
     refine WI.seq ?_
     refine ireg ?_
     refine ov vld ?_
     refine inl ?_
     refine WIQ.then ?_
     refine WI.cond rfl (fun g1 => ?_) (fun g1 => ?_)
     · obtain ⟨rb, rc, rr, ho27⟩ : ∃ b c r, o27 = some (b, c, r) := by
         cases o27 with
         | none => exact absurd rfl (h27.2 (by assumption))
         | some q => exact ⟨_, _, _, rfl⟩
       subst ho27
       have hrc : (recB (rdS D i)).length ≤ rc := h27.1
       dsimp only [gL, List.cons_append, List.nil_append]
       refine idr (.q 0 (.q 1 (.q 2 (.q 3 (.q 5 (.l2 4 (.l 6 (.l 7 (.q 8 (.q 9 (.l 10 (.done)))))) 6 (.l 4 (.l 7 (.q 8 (.q 9 (.l 10 (.done)))))))))))) [(b4, _)] ?_
       refine dq rfl vld ?_
       refine dq rfl vld ?_
       refine dq rfl vnil ?_
       refine dq rfl (vfa0 3 1) ?_
       refine dq rfl (V_move rfl) ?_
       refine WD.l2 ?_ ?_
       · refine dv rfl vld ?_
         refine WD.l ?_
         refine dbs rfl 31 24 (fun b41 => ?_)
         refine WD.l ?_
         refine dapR (r := ⟨rb, (recB (rdS D i)).length, rc, rr, recB (rdS D i)⟩) rfl 5 31 24 (fun o42 h42 => ?_) (hr := ⟨rfl, hrc, recB_bytes (rdS_sec hok).2⟩)
         refine dq rfl vnil ?_
         refine dq rfl (vfa0 3 1) ?_
         refine WD.l ?_
         refine dst rfl ?_
         refine idone ?_
         refine WIQ.block_normal ?_
         refine WIQ.cov ((l, lrec .busy none fn tm _ _ _ D0) :: (D0, dref (some [])) :: (b16, .cells [(1, [.pointer (some ⟨K.d, 0, none⟩)])] 23) :: (K.d, .cells [(1, [.slice (some ⟨K.s, 0, none⟩) D.n D.n]), (1, [.map (some K.m)]), (1, [.int .i64 D.fuse]), (1, [.bool D.dead])] 101) :: (K.s, .cells [(D.n * 64, iv .u8 D.sure.flatten)] 58) :: (K.m, .obj (mapO .i64 (D.m.map sE) D.ck)) :: OpB K b14 b4 b5 (i + 1) (recI i (rdS D i)) ⟨o42, g.rs ++ [⟨rb, (recB (rdS D i)).length, rc, rr, recB (rdS D i)⟩]⟩) ?_ (hc := by unfold OpB; exact cov)
         refine endsN ?_
         exact ⟨rfl, _, rfl, (recI i (rdS D i)), ⟨o42, g.rs ++ [⟨rb, (recB (rdS D i)).length, rc, rr, recB (rdS D i)⟩]⟩, (by rw [op_yes hgs.symm g1]; exact g1), (by rw [op_yes hgs.symm g1, ← hgl]; simp [GR.ll]), h42, rfl⟩
       · refine dbs rfl 31 24 (fun b41 => ?_)
         refine WD.l ?_
         refine dv rfl vld ?_
         refine WD.l ?_
         refine dapR (r := ⟨rb, (recB (rdS D i)).length, rc, rr, recB (rdS D i)⟩) rfl 5 31 24 (fun o42 h42 => ?_) (hr := ⟨rfl, hrc, recB_bytes (rdS_sec hok).2⟩)
         refine dq rfl vnil ?_
         refine dq rfl (vfa0 3 1) ?_
         refine WD.l ?_
         refine dst rfl ?_
         refine idone ?_
         refine WIQ.block_normal ?_
         refine WIQ.cov ((l, lrec .busy none fn tm _ _ _ D0) :: (D0, dref (some [])) :: (b16, .cells [(1, [.pointer (some ⟨K.d, 0, none⟩)])] 23) :: (K.d, .cells [(1, [.slice (some ⟨K.s, 0, none⟩) D.n D.n]), (1, [.map (some K.m)]), (1, [.int .i64 D.fuse]), (1, [.bool D.dead])] 101) :: (K.s, .cells [(D.n * 64, iv .u8 D.sure.flatten)] 58) :: (K.m, .obj (mapO .i64 (D.m.map sE) D.ck)) :: OpB K b14 b4 b5 (i + 1) (recI i (rdS D i)) ⟨o42, g.rs ++ [⟨rb, (recB (rdS D i)).length, rc, rr, recB (rdS D i)⟩]⟩) ?_ (hc := by unfold OpB; exact cov)
         refine endsN ?_
         exact ⟨rfl, _, rfl, (recI i (rdS D i)), ⟨o42, g.rs ++ [⟨rb, (recB (rdS D i)).length, rc, rr, recB (rdS D i)⟩]⟩, (by rw [op_yes hgs.symm g1]; exact g1), (by rw [op_yes hgs.symm g1, ← hgl]; simp [GR.ll]), h42, rfl⟩
     · refine WI.skip ?_
       refine WIQ.block_normal ?_
       refine WIQ.cov ((l, lrec .busy none fn tm _ _ _ D0) :: (D0, dref (some [])) :: (b16, .cells [(1, [.pointer (some ⟨K.d, 0, none⟩)])] 23) :: (K.d, .cells [(1, [.slice (some ⟨K.s, 0, none⟩) D.n D.n]), (1, [.map (some K.m)]), (1, [.int .i64 D.fuse]), (1, [.bool D.dead])] 101) :: (K.s, .cells [(D.n * 64, iv .u8 D.sure.flatten)] 58) :: (K.m, .obj (mapO .i64 (D.m.map sE) D.ck)) :: OpB K b14 b4 b5 (i + 1) (recI i (rdS D i)) g) ?_ (hc := by unfold OpB; exact cov)
       refine endsN ?_
       exact ⟨rfl, _, rfl, (recI i (rdS D i)), g, (by rw [op_no hgs.symm g1]; exact g1), (by rw [op_no hgs.symm g1, hgl]), hg, rfl⟩
   · obtain rfl : gs = false := by simpa using hc0
     refine ireg ?_
     refine ov vld ?_
     refine omv ?_
     refine on rfl rfl ?_
     refine ov (V_pick_f rfl rfl rfl) ?_
     refine ost ?_
     refine inl ?_
     refine WIQ.then ?_
     refine WI.seq ?_
     refine ireg ?_
     refine ov vld ?_
     refine inl ?_
     refine WIQ.then ?_
     refine WI.cond_false rfl rfl ?_
     refine WI.skip ?_
     refine WIQ.block_normal ?_
     refine WIQ.cov ((l, lrec .busy none fn tm _ _ _ D0) :: (D0, dref (some [])) :: (b16, .cells [(1, [.pointer (some ⟨K.d, 0, none⟩)])] 23) :: (K.d, .cells [(1, [.slice (some ⟨K.s, 0, none⟩) D.n D.n]), (1, [.map (some K.m)]), (1, [.int .i64 D.fuse]), (1, [.bool D.dead])] 101) :: (K.s, .cells [(D.n * 64, iv .u8 D.sure.flatten)] 58) :: (K.m, .obj (mapO .i64 (D.m.map sE) D.ck)) :: OpB K b14 b4 b5 (i + 1) false g) ?_ (hc := by unfold OpB; exact cov)
     refine endsN ?_
     exact ⟨rfl, _, rfl, false, g, (by rw [op_off hgs.symm]), (by rw [op_off hgs.symm, hgl]), hg, rfl⟩
 · rintro D1 _ ⟨_, _, rfl, gs, g, hgs, hgl, hg, rfl⟩
   unfold OpB
   refine WIQ.block_normal ?_
   refine WIQ.then ?_
   refine WI.seq ?_
   refine idr (.q 0 (.q 1 (.q 2 (.q 3 (.l 4 (.q 5 (.q 6 (.q 7 (.l 8 (.done)))))))))) [(b4, _)] ?_
   refine dq rfl vld ?_
   refine dq rfl vld ?_
   refine dq rfl vnil ?_
   refine dq rfl (vfa0 3 1) ?_
   refine WD.l ?_
   refine dv rfl vld ?_
   refine dq rfl vlenS ?_
   refine dq rfl vnil ?_
   refine dq rfl (vfa0 1 1) ?_
   refine WD.l ?_
   refine dst rfl ?_
   refine idone ?_
   refine WIQ.then ?_
   refine WI.seq ?_
   refine ireg ?_
   refine ov vld ?_
   refine oas ?_
   refine oas ?_
   refine inl ?_
   refine WIQ.then ?_
   refine WI.ret ?_
   refine WIQ.leave2 Try.results17 (.tmp rfl) (.tmp rfl) ?_
   intro w' hp; exact ⟨(b14, g), ⟨hg, hgl⟩, rfl, hp.cov cov⟩
 · rintro D1 cd _ ⟨h, _⟩; cases h

end Go.Proofs.Ytnpnnafcdnefiaa