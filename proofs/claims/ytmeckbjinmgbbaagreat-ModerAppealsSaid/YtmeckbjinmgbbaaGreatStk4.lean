/- Strikes: the ledger of a journal. -/
import Derived.Test.YtmeckbjinmgbbaaGreatStk3
set_option linter.unusedVariables false
set_option linter.unusedSimpArgs false

namespace Go.Proofs.YtmeckbjinmgbbaaGreat
open Go.X
def opS (ll : List (List Int)) : LS := ll.foldl tk ⟨[], 0⟩
theorem opS_snoc {ll : List (List Int)} {l : List Int} : opS (ll ++ [l]) = tk (opS ll) l := by unfold opS; rw [List.foldl_append]; rfl
theorem opS_ok' : ∀ {ll : List (List Int)} {S : LS}, LOK S → (∀ l ∈ ll, bytes l) → LOK (ll.foldl tk S)
  | [], S, h, _ => h
  | l :: ll, S, h, hb => opS_ok' (ll := ll) (tk_ok h (hb l List.mem_cons_self)) fun x hx => hb x (List.mem_cons_of_mem _ hx)
theorem opS_ok {ll : List (List Int)} (h : ∀ l ∈ ll, bytes l) : LOK (opS ll) := opS_ok' .nil h
theorem GR.lbytes {g : GR} (hg : g.OK) : ∀ l ∈ g.ll, bytes l := fun l hl => by
  obtain ⟨r, hr, rfl⟩ := List.mem_map.1 hl
  exact (hg.2 r hr).2.2
theorem take_bytes {ll : List (List Int)} (h : ∀ l ∈ ll, bytes l) {i : Nat} : ∀ l ∈ ll.take i, bytes l := fun l hl => h l (List.mem_of_mem_take hl)
def SoB (b12 mb b4 j : Nat) (S : LS) : List (Nat × Blk) := (b12, .cells [(1, [.pointer (some ⟨j, 0, none⟩)]), (1, [.map (some mb)])] 110) :: (mb, .obj (mapO .i64 (S.m.map (gE stkV)) S.ck)) :: [(b4, .cells [(1, [.pointer (some ⟨b12, 0, none⟩)])] 30)]
def SoG (ll : List (List Int)) (b12 mb b4 j : Nat) (i : Nat) (Lx : List (Nat × Blk)) : Prop := Lx = SoB b12 mb b4 j (opS (ll.take i))
theorem rowSr {c : Cx} {L : List (Nat × Blk)} {r : RowB} {T : TypeId} (h : r.blk T ∈ L := by repeat (first | exact List.Mem.head _ | apply List.Mem.tail)) : Sr c L 1 (some ⟨r.b, 0, none⟩) r.n (iv .u8 r.l) := fun w hp => HP.sown hp h iv_one

theorem sopen23_calls (K : DK) (D : DS) (j : Nat) (g : GR) (hg : g.OK) (hgn : g.rs.length ≤ 64) (hgl : ∀ r ∈ g.rs, r.n ≤ 59) (w : World) (hp0 : HP w w (((j, .cells [(1, [.pointer (some ⟨K.d, 0, none⟩)]), (1, [.int .i64 (g.rs.length : Nat)]), (1, [.int .i64 (D.n : Nat)]), (1, [.slice (gA g.o) g.rs.length (gC g.o)])] 146) :: gRL 5 35 g : List (Nat × Blk)).map (·.1)) ((j, .cells [(1, [.pointer (some ⟨K.d, 0, none⟩)]), (1, [.int .i64 (g.rs.length : Nat)]), (1, [.int .i64 (D.n : Nat)]), (1, [.slice (gA g.o) g.rs.length (gC g.o)])] 146) :: gRL 5 35 g : List (Nat × Blk))) :
    Calls Tryz.prog 29 [.pointer (some ⟨j, 0, none⟩)].toArray w fun e w' => ∃ r : Nat × Nat, True ∧ e = .returned (.tuple #[.pointer (some ⟨r.1, 0, none⟩), .int .i64 0]) ∧ HP w w' (((j, .cells [(1, [.pointer (some ⟨K.d, 0, none⟩)]), (1, [.int .i64 (g.rs.length : Nat)]), (1, [.int .i64 (D.n : Nat)]), (1, [.slice (gA g.o) g.rs.length (gC g.o)])] 146) :: gRL 5 35 g : List (Nat × Blk)).map (·.1)) ((j, .cells [(1, [.pointer (some ⟨K.d, 0, none⟩)]), (1, [.int .i64 (g.rs.length : Nat)]), (1, [.int .i64 (D.n : Nat)]), (1, [.slice (gA g.o) g.rs.length (gC g.o)])] 146) :: (r.1, .cells [(1, [.pointer (some ⟨j, 0, none⟩)]), (1, [.map (some r.2)])] 110) :: (r.2, .obj (mapO .i64 ((opS g.ll).m.map (gE stkV)) (opS g.ll).ck)) :: gRL 5 35 g) := by
 refine calls_of_WM Tryz.func29 rfl Tryz.ntmps29 rfl rfl hp0 ?_
 refine sr ?_
 refine oas ?_
 refine oas ?_
 refine nq ?_
 refine W.seq ?_
 refine sr ?_
 refine omv ?_
 refine ov (V_eqlP (by kernel_rfl) rfl rfl) ?_
 refine nq ?_
 refine W.cond_false rfl rfl ?_
 refine W.skip ?_
 refine WQ.then ?_
 refine sr ?_
 refine omv ?_
 refine omk (fun b10 => ?_)
 refine ov (V_build (by kernel_rfl) (zi (zs := [(1, [.pointer none]), (1, [.map none])])) (.one (k := 0) rfl rfl (by kernel_rfl) rfl (.one (k := 1) rfl rfl (by kernel_rfl) rfl (.nil _)))) ?_
 refine obxa (fun b12 => ?_)
 refine oal [(1, [.pointer none])] (fun b4 => ?_)
 refine ost ?_
 refine nq ?_
 refine W.ofWI ?_
 refine WI.seq ?_
 refine WI.seq ?_
 refine ireg ?_
 refine omv ?_
 refine cg rfl (fun w hp => all22_calls _ w) (fun b14 h14 => ?_)
 refine inl ?_
 refine WIQ.then ?_
 refine WI.block ?_
 refine WI.range (R := fun pe L' => pe = none ∧ ∃ Lx', L' = ((b14, .cells [(1, [.pointer (some ⟨j, 0, none⟩)])] 78) :: (j, .cells [(1, [.pointer (some ⟨K.d, 0, none⟩)]), (1, [.int .i64 (g.rs.length : Nat)]), (1, [.int .i64 (D.n : Nat)]), (1, [.slice (gA g.o) g.rs.length (gC g.o)])] 146) :: (Lx' ++ gRL 5 35 g)) ∧ SoG g.ll b12 b10 b4 j g.rs.length Lx') rfl (by kernel_rfl) ?_ ?_ ?_
 · intro fn l D0 tm hsl w1 hp1
   refine alls22_calls w _ K D b14 j g hg hgn hgl l D0 fn tm _ _ _ rfl (SoG g.ll b12 b10 b4 j) ?_ (SoB b12 b10 b4 j (opS [])) rfl w1 (by unfold SoB; exact hp1.cov cov)
   rintro i Lx r hi rfl hr
   have hr59 : r.n ≤ 59 := by
     have h1 : g.ll.getD i [] ∈ g.ll := getD_mem (by rw [GR.ll_len]; exact hi)
     obtain ⟨q, hq, he⟩ := List.mem_map.1 h1
     have h0 := hgl q hq
     have h2 := (hg.2 q hq).1
     have h3 := hr.n
     rw [hr.e, ← he] at h3; omega
   unfold SoB
   simp only [List.cons_append]
   refine Rd.n (rd2 hsl rfl rfl ?_)
   refine WI.cov ((l, lrec .ready none fn tm _ _ _ D0) :: (D0, dref (some [])) :: r.blk 5 :: (b12, .cells [(1, [.pointer (some ⟨j, 0, none⟩)]), (1, [.map (some b10)])] 110) :: (b10, .obj (mapO .i64 ((opS (g.ll.take i)).m.map (gE stkV)) (opS (g.ll.take i)).ck)) :: (b4, .cells [(1, [.pointer (some ⟨b12, 0, none⟩)])] 30) :: (b14, .cells [(1, [.pointer (some ⟨j, 0, none⟩)])] 78) :: (j, .cells [(1, [.pointer (some ⟨K.d, 0, none⟩)]), (1, [.int .i64 (g.rs.length : Nat)]), (1, [.int .i64 (D.n : Nat)]), (1, [.slice (gA g.o) g.rs.length (gC g.o)])] 146) :: gRL 5 35 g) ?_
   refine ireg ?_
   refine oas ?_
   refine inl ?_
   refine begins ?_
   refine WI.block ?_
   refine ireg ?_
   refine ov vld ?_
   refine omv ?_
   refine cms rfl (fun w hp => take23_calls b12 b10 j (opS (g.ll.take i)) (opS_ok (take_bytes (GR.lbytes hg))) (some ⟨r.b, 0, none⟩) r.n r.cap r.l hr.by_ hr.cap hr.n.symm (by omega) w (HP.here hp cov) (fun w1 M h1 => Sr.past hp h1 (hs := rowSr))) ?_
   refine inl ?_
   refine WIQ.block_normal ?_
   rw [← opS_snoc, show r.l = g.ll.getD i [] from hr.e, snoc_take rfl (by rw [GR.ll_len]; exact hi)]
   refine WIQ.cov ((l, lrec .busy none fn tm _ _ _ D0) :: (D0, dref (some [])) :: (b14, .cells [(1, [.pointer (some ⟨j, 0, none⟩)])] 78) :: (j, .cells [(1, [.pointer (some ⟨K.d, 0, none⟩)]), (1, [.int .i64 (g.rs.length : Nat)]), (1, [.int .i64 (D.n : Nat)]), (1, [.slice (gA g.o) g.rs.length (gC g.o)])] 146) :: (SoB b12 b10 b4 j (opS (g.ll.take (i + 1))) ++ gRL 5 35 g)) ?_ (hc := by unfold SoB; simp only [List.cons_append]; exact cov)
   refine endsN ?_
   exact ⟨rfl, _, rfl, rfl⟩
 · rintro D1 _ ⟨_, _, rfl, rfl⟩
   unfold SoB
   simp only [List.cons_append]
   rw [show g.ll.take g.rs.length = g.ll from List.take_of_length_le (by rw [GR.ll_len]; omega)]
   refine WIQ.cov ((D1, dref (some [])) :: (b12, .cells [(1, [.pointer (some ⟨j, 0, none⟩)]), (1, [.map (some b10)])] 110) :: (b10, .obj (mapO .i64 ((opS g.ll).m.map (gE stkV)) (opS g.ll).ck)) :: (b4, .cells [(1, [.pointer (some ⟨b12, 0, none⟩)])] 30) :: (j, .cells [(1, [.pointer (some ⟨K.d, 0, none⟩)]), (1, [.int .i64 (g.rs.length : Nat)]), (1, [.int .i64 (D.n : Nat)]), (1, [.slice (gA g.o) g.rs.length (gC g.o)])] 146) :: gRL 5 35 g) ?_
   refine WIQ.block_normal ?_
   refine WIQ.then ?_
   refine WI.seq ?_
   refine ireg ?_
   refine ov vld ?_
   refine oas ?_
   refine oas ?_
   refine inl ?_
   refine WIQ.then ?_
   refine WI.ret ?_
   refine WIQ.leave2 Tryz.results29 (.tmp rfl) (.tmp rfl) ?_
   intro w' hp; exact ⟨(b12, b10), trivial, rfl, hp.cov cov⟩
 · rintro D1 cd _ ⟨h, _⟩; cases h

end Go.Proofs.YtmeckbjinmgbbaaGreat