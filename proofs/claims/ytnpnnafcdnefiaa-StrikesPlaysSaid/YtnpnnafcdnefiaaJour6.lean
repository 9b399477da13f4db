/- The journal: all its records. -/
import Derived.Test.YtnpnnafcdnefiaaJour5
set_option linter.unusedVariables false
set_option linter.unusedSimpArgs false

namespace Go.Proofs.Ytnpnnafcdnefiaa
open Go.X
/-- What was got so far. -/
def AlB (b2 b3 : Nat) (o : GR) : List (Nat × Blk) :=
  (b2, .cells [(1, [.slice none 0 0])] 32) :: (b3, .cells [(1, [.slice (gA o.o) o.rs.length (gC o.o)])] 32) :: gRL 5 31 o
theorem GR.ll_snoc {o : Gr} {rs : List RowB} {r : RowB} : GR.ll ⟨o, rs ++ [r]⟩ = rs.map (·.l) ++ [r.l] := by simp [GR.ll]
theorem snoc_take {ll l : List (List Int)} {i : Nat} (h : l = ll.take i) (hi : i < ll.length) : l ++ [ll.getD i []] = ll.take (i + 1) := by
  rw [h, List.take_succ_eq_append_getElem hi, List.getD_eq_getElem?_getD, List.getElem?_eq_getElem hi]; rfl
def AlG (ll : List (List Int)) (b2 b3 : Nat) (i : Nat) (Lx : List (Nat × Blk)) : Prop := ∃ o : GR, o.OK ∧ o.ll = ll.take i ∧ Lx = AlB b2 b3 o

theorem alll22_calls (K : DK) (D : DS) (j : Nat) (g : GR) (hg : g.OK) (hgn : g.rs.length ≤ 64) (hgl : ∀ r ∈ g.rs, r.n ≤ 59) (w : World) (hp0 : HP w w (((j, .cells [(1, [.pointer (some ⟨K.d, 0, none⟩)]), (1, [.int .i64 (g.rs.length : Nat)]), (1, [.int .i64 (D.n : Nat)]), (1, [.slice (gA g.o) g.rs.length (gC g.o)])] 103) :: gRL 5 31 g : List (Nat × Blk)).map (·.1)) ((j, .cells [(1, [.pointer (some ⟨K.d, 0, none⟩)]), (1, [.int .i64 (g.rs.length : Nat)]), (1, [.int .i64 (D.n : Nat)]), (1, [.slice (gA g.o) g.rs.length (gC g.o)])] 103) :: gRL 5 31 g : List (Nat × Blk))) :
    Calls Try.prog 19 [.pointer (some ⟨j, 0, none⟩)].toArray w fun e w' => ∃ r : GR, (r.OK ∧ r.ll = g.ll) ∧ e = .returned (.slice (gA r.o) r.rs.length (gC r.o)) ∧ HP w w' (((j, .cells [(1, [.pointer (some ⟨K.d, 0, none⟩)]), (1, [.int .i64 (g.rs.length : Nat)]), (1, [.int .i64 (D.n : Nat)]), (1, [.slice (gA g.o) g.rs.length (gC g.o)])] 103) :: gRL 5 31 g : List (Nat × Blk)).map (·.1)) ((j, .cells [(1, [.pointer (some ⟨K.d, 0, none⟩)]), (1, [.int .i64 (g.rs.length : Nat)]), (1, [.int .i64 (D.n : Nat)]), (1, [.slice (gA g.o) g.rs.length (gC g.o)])] 103) :: (gRL 5 31 g ++ gRL 5 31 r)) := by
 refine calls_of_WM Try.func19 rfl Try.ntmps19 rfl rfl hp0 ?_
 refine sr ?_
 refine oal [(1, [.slice none 0 0])] (fun b2 => ?_)
 refine nx ?_
 refine oal [(1, [.slice none 0 0])] (fun b3 => ?_)
 refine nx ?_
 refine omv ?_
 refine cg rfl (fun w hp => all22_calls _ w) (fun b8 h8 => ?_)
 refine oas ?_
 refine nq ?_
 refine W.seq ?_
 refine sr ?_
 refine omv ?_
 refine ov (veqF) ?_
 refine nq ?_
 refine W.cond_false rfl rfl ?_
 refine W.skip ?_
 refine WQ.then ?_
 refine W.ofWI ?_
 refine WI.seq ?_
 refine WI.seq ?_
 refine ireg ?_
 refine omv ?_
 refine inl ?_
 refine WIQ.then ?_
 refine WI.block ?_
 refine WI.range (R := fun pe L' => pe = none ∧ ∃ Lx', L' = ((b8, .cells [(1, [.pointer (some ⟨j, 0, none⟩)])] 27) :: (j, .cells [(1, [.pointer (some ⟨K.d, 0, none⟩)]), (1, [.int .i64 (g.rs.length : Nat)]), (1, [.int .i64 (D.n : Nat)]), (1, [.slice (gA g.o) g.rs.length (gC g.o)])] 103) :: (Lx' ++ gRL 5 31 g)) ∧ AlG g.ll b2 b3 g.rs.length Lx') rfl (by kernel_rfl) ?_ ?_ ?_
 · intro fn l D0 tm hsl w1 hp1
   refine alls22_calls w _ K D b8 j g hg hgn hgl l D0 fn tm _ _ _ rfl (AlG g.ll b2 b3) ?_ (AlB b2 b3 GR.nil) ⟨GR.nil, GR.nil_ok, rfl, rfl⟩ w1 (by unfold AlB; exact hp1.cov cov)
   rintro i Lx r hi ⟨o, ho, hol, rfl⟩ hr
   have hon : o.rs.length = i := by rw [← GR.ll_len, hol, List.length_take, GR.ll_len]; omega
   unfold AlB
   simp only [List.cons_append]
   refine Rd.n (rd2 hsl rfl rfl ?_)
   refine WI.cov ((l, lrec .ready none fn tm _ _ _ D0) :: (D0, dref (some [])) :: r.blk 5 :: (b2, .cells [(1, [.slice none 0 0])] 32) :: (b3, .cells [(1, [.slice (gA o.o) o.rs.length (gC o.o)])] 32) :: (b8, .cells [(1, [.pointer (some ⟨j, 0, none⟩)])] 27) :: (j, .cells [(1, [.pointer (some ⟨K.d, 0, none⟩)]), (1, [.int .i64 (g.rs.length : Nat)]), (1, [.int .i64 (D.n : Nat)]), (1, [.slice (gA g.o) g.rs.length (gC g.o)])] 103) :: (gRL 5 31 o ++ gRL 5 31 g)) ?_
   refine WI.seq ?_
   refine ireg ?_
   refine oas ?_
   refine inl ?_
   refine WIQ.then ?_
   refine ireg ?_
   refine oas ?_
   refine inl ?_
   refine begins ?_
   refine WI.block ?_
   refine WI.seq ?_
   refine WI.seq ?_
   refine ireg ?_
   refine omv ?_
   refine ov vld ?_
   refine ov vlenS ?_
   refine ov (v2 V_neq) ?_
   refine omv ?_
   refine oy rfl (decide_eq_false (by omega)) ?_
   refine omv ?_
   refine oy rfl (decide_eq_false (by omega)) ?_
   refine ov (v2 V_gtr) ?_
   refine ov (V_pick_f rfl (decide_eq_false (by omega)) rfl) ?_
   refine inl ?_
   refine WIQ.then ?_
   refine WI.cond_false rfl (decide_eq_false (by omega)) ?_
   refine WI.skip ?_
   refine WIQ.then ?_
   refine ireg ?_
   refine ov vld ?_
   refine omv ?_
   refine obs 31 24 (fun b24 => ?_)
   refine oapR (r := r) 5 31 24 (fun o25 h25 => ?_) (hr := ⟨hr.n, hr.cap, hr.by_⟩)
   refine ost ?_
   refine inl ?_
   refine WIQ.block_normal ?_
   refine WIQ.cov ((l, lrec .busy none fn tm _ _ _ D0) :: (D0, dref (some [])) :: (b8, .cells [(1, [.pointer (some ⟨j, 0, none⟩)])] 27) :: (j, .cells [(1, [.pointer (some ⟨K.d, 0, none⟩)]), (1, [.int .i64 (g.rs.length : Nat)]), (1, [.int .i64 (D.n : Nat)]), (1, [.slice (gA g.o) g.rs.length (gC g.o)])] 103) :: (AlB b2 b3 ⟨o25, o.rs ++ [r]⟩ ++ gRL 5 31 g)) ?_ (hc := by unfold AlB; simp only [List.cons_append]; exact cov)
   refine endsN ?_
   exact ⟨rfl, _, rfl, ⟨o25, o.rs ++ [r]⟩, h25, by rw [GR.ll_snoc, hr.e]; exact (snoc_take hol (by rw [GR.ll_len]; exact hi)), rfl⟩
 · rintro D1 _ ⟨_, _, rfl, o, ho, hol, rfl⟩
   unfold AlB
   simp only [List.cons_append]
   refine WIQ.cov ((D1, dref (some [])) :: (b2, .cells [(1, [.slice none 0 0])] 32) :: (b3, .cells [(1, [.slice (gA o.o) o.rs.length (gC o.o)])] 32) :: (j, .cells [(1, [.pointer (some ⟨K.d, 0, none⟩)]), (1, [.int .i64 (g.rs.length : Nat)]), (1, [.int .i64 (D.n : Nat)]), (1, [.slice (gA g.o) g.rs.length (gC g.o)])] 103) :: (gRL 5 31 g ++ gRL 5 31 o)) ?_
   refine WIQ.block_normal ?_
   refine WIQ.then ?_
   refine WI.seq ?_
   refine ireg ?_
   refine ov vld ?_
   refine ost ?_
   refine inl ?_
   refine WIQ.then ?_
   refine WI.ret ?_
   refine WIQ.leave1 Try.results19 (.cell (by kernel_rfl) rfl at_ (by rfl)) ?_
   intro w' hp; exact ⟨o, ⟨ho, by rw [hol]; exact List.take_of_length_le (by rw [GR.ll_len]; omega)⟩, rfl, hp.cov cov⟩
 · rintro D1 cd _ ⟨h, _⟩; cases h

end Go.Proofs.Ytnpnnafcdnefiaa