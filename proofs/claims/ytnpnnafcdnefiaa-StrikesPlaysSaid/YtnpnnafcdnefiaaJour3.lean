/- The journal: its records, one by one. -/
import Derived.Test.YtnpnnafcdnefiaaJour2
set_option linter.unusedVariables false
set_option linter.unusedSimpArgs false

namespace Go.Proofs.Ytnpnnafcdnefiaa
open Go.X
theorem GR.rowsL {w0 w : World} {O : List Nat} {L : List (Nat × Blk)} (hp : HP w0 w O L) : ∀ (rs : List RowB), (∀ r ∈ rs, r.l.length = r.n ∧ r.n ≤ r.cap ∧ ∀ x ∈ r.l, 0 ≤ x ∧ x ≤ 255) → (∀ r ∈ rs, r.blk 5 ∈ L) → RowsL w (rs.map RowB.v) (rs.map (·.l))
  | [], _, _ => trivial
  | r :: rs, h, hm => by
    have h0 := h r List.mem_cons_self
    have hs : SrW w 1 (some ⟨r.b, 0, none⟩) r.n (iv .u8 r.l) := HP.sown hp (hm r List.mem_cons_self) iv_one
    exact ⟨⟨some ⟨r.b, 0, none⟩, r.n, r.cap, rfl, h0.2.1, hs, h0.2.2⟩, GR.rowsL hp rs (fun q hq => h q (List.mem_cons_of_mem _ hq)) fun q hq => hm q (List.mem_cons_of_mem _ hq)⟩
theorem GR.flat {w0 w : World} {O : List Nat} {L L' : List (Nat × Blk)} {g : GR} (hp : HP w0 w O L) (hd : DelL (gRL 5 31 g) L L') : HP w0 w O (gL g.o g.rs.length (g.rs.map RowB.v) 31 ++ (g.rs.map (RowB.blk 5) ++ L')) := by
  have := hp.perm hd.perm.symm; unfold gRL at this; rwa [List.append_assoc] at this
theorem GR.two {w0 w : World} {O : List Nat} {L L' : List (Nat × Blk)} {g : GR} (hp : HP w0 w O L) (hg : g.OK) (hd : DelL (gRL 5 31 g) L L' := by exact dell) : SrW w 1 (gA g.o) g.rs.length (g.rs.map RowB.v) ∧ RowsL w (g.rs.map RowB.v) g.ll := by
  have h1 := GR.flat hp hd
  exact ⟨HP.sgr h1 (.here _) (by simp) hg.1 (by simp [Go.X.one]), GR.rowsL h1 g.rs hg.2 fun r hr => List.mem_append_right _ (List.mem_append_left _ (List.mem_map.2 ⟨r, hr, rfl⟩))⟩
theorem GR.rows {w0 w : World} {O : List Nat} {L L' : List (Nat × Blk)} {g : GR} (hp : HP w0 w O L) (hg : g.OK) (hn : g.rs.length ≤ 9223372036854775807) (hd : DelL (gRL 5 31 g) L L' := by exact dell) : Rows w (gA g.o) g.rs.length g.ll :=
  ⟨hn, _, (GR.two hp hg hd).1, (GR.two hp hg hd).2⟩
theorem GR.row {w0 w : World} {O : List Nat} {L L' : List (Nat × Blk)} {g : GR} {r : RowB} (hp : HP w0 w O L) (hr : r ∈ g.rs) (hd : DelL (gRL 5 31 g) L L' := by exact dell) : SrW w 1 (some ⟨r.b, 0, none⟩) r.n (iv .u8 r.l) :=
  HP.sown (GR.flat hp hd) (List.mem_append_right _ (List.mem_append_left _ (List.mem_map.2 ⟨r, hr, rfl⟩))) iv_one
section
variable {c : Cx} {Q : Post} {S : Slots} {L L' : List (Nat × Blk)} {ty T : TypeId} {x ix : Operand} {i : Nat}
theorem viR {o : Gr} {b cc len cap : Nat} {rs : List Value} {k : IntKind} (ho : o = some (b, cc, rs)) (hx : ev S x = some (.slice (gA o) len cap) := by exact rfl) (hi : ev S ix = some (.int k (i : Int)) := by exact rfl) (hj : i < len := by omega) (ht : slB c.P T 1 = true := by kernel_rfl) : Val c S L (.indexAddr T x ix) ty (.pointer (some ⟨b, i, none⟩)) := by
  subst ho; exact viS0 ht hx hi hj
theorem vldR {g : GR} {b cc : Nat} {rs : List Value} {r : RowB} (ho : g.o = some (b, cc, rs)) (hr : g.rs[i]? = some r) (hg : g.OK) (hd : DelL (gRL 5 31 g) L L' := by exact dell) (ht : scB c.P T = true := by kernel_rfl) (hx : ev S x = some (.pointer (some ⟨b, i, none⟩)) := by exact rfl) : Val c S L (.load T x) ty r.v := by
  have hs : Sr c L 1 (some ⟨b, 0, none⟩) g.rs.length (g.rs.map RowB.v) := fun w hp => by
    have := (GR.two hp hg hd).1
    rwa [ho] at this
  exact V_loadSr (j := i) hs rfl ht hx (by omega) (by rw [List.getElem?_map, hr]; rfl)
end
/-- A row that was laid. -/
structure RowOK (r : RowB) (l : List Int) : Prop where
  e : r.l = l
  n : r.l.length = r.n
  cap : r.n ≤ r.cap
  by_ : bytes r.l

theorem len22_calls (K : DK) (D : DS) (j : Nat) (g : GR) (w : World) (hp0 : HP w w [j] [(j, .cells [(1, [.pointer (some ⟨K.d, 0, none⟩)]), (1, [.int .i64 (g.rs.length : Nat)]), (1, [.int .i64 (D.n : Nat)]), (1, [.slice (gA g.o) g.rs.length (gC g.o)])] 103)]) :
    Calls Try.prog 20 [.pointer (some ⟨j, 0, none⟩)].toArray w fun e w' => e = .returned (.int .i64 (g.rs.length : Nat)) ∧ HP w w' [j] [(j, .cells [(1, [.pointer (some ⟨K.d, 0, none⟩)]), (1, [.int .i64 (g.rs.length : Nat)]), (1, [.int .i64 (D.n : Nat)]), (1, [.slice (gA g.o) g.rs.length (gC g.o)])] 103)] := by
 refine calls_of_W Try.func20 rfl Try.ntmps20 rfl rfl hp0 ?_
 refine sr ?_
 refine oas ?_
 refine nx ?_
 refine omv ?_
 refine ov vnil ?_
 refine ov (vfa0 1 1) ?_
 refine ov vld ?_
 refine oas ?_
 refine nq ?_
 refine W.ret ?_
 refine WQ.ret1 Try.results20 (.tmp rfl) ?_
 intro w' hp; exact ⟨rfl, hp.cov cov⟩

theorem all22_calls (j : Nat) (w : World) :
    Calls Try.prog 56 [.pointer (some ⟨j, 0, none⟩)].toArray w fun e w' => ∃ r : Nat, True ∧ e = .returned (.func (.func 74) #[] #[.pointer (some ⟨r, 0, none⟩)]) ∧ HP w w' [] [(r, .cells [(1, [.pointer (some ⟨j, 0, none⟩)])] 27)] := by
 refine calls_of_W Try.func56 rfl Try.ntmps56 rfl rfl (HP.refl w []) ?_
 refine sr ?_
 refine obx (fun b1 => ?_)
 refine oas ?_
 refine nx ?_
 refine ov V_makeFunc ?_
 refine oas ?_
 refine nq ?_
 refine W.ret ?_
 refine WQ.ret1 Try.results56 (.tmp rfl) ?_
 intro w' hp; exact ⟨b1, trivial, rfl, hp.cov cov⟩

theorem alls22_calls (w0 : World) (O : List Nat) (K : DK) (D : DS) (b j : Nat) (g : GR) (hg : g.OK) (hgn : g.rs.length ≤ 64) (hgl : ∀ r ∈ g.rs, r.n ≤ 59) (l D0 : Nat) (fn : FuncId) (tm : Array Value) (ps : Array Tmp) (ac bo : Code) (hps : ps.size = 2) (G : Nat → List (Nat × Blk) → Prop)
    (hround : ∀ (i : Nat) Lx (r : RowB), i < g.rs.length → G i Lx → RowOK r (g.ll.getD i []) → Rd ⟨Try.prog, 0, w0, O⟩ l ⟨.ready, none, fn, tm, ps, ac, bo, D0⟩ [.int .i64 i, r.v] (r.blk 5 :: (l, lrec .ready none fn tm ps ac bo D0) :: (D0, dref (some [])) :: (b, .cells [(1, [.pointer (some ⟨j, 0, none⟩)])] 27) :: (j, .cells [(1, [.pointer (some ⟨K.d, 0, none⟩)]), (1, [.int .i64 (g.rs.length : Nat)]), (1, [.int .i64 (D.n : Nat)]), (1, [.slice (gA g.o) g.rs.length (gC g.o)])] 103) :: (Lx ++ gRL 5 31 g)) fun t L' => t = true ∧ ∃ Lx', L' = ((l, lrec .ready none fn tm ps ac bo D0) :: (D0, dref (some [])) :: (b, .cells [(1, [.pointer (some ⟨j, 0, none⟩)])] 27) :: (j, .cells [(1, [.pointer (some ⟨K.d, 0, none⟩)]), (1, [.int .i64 (g.rs.length : Nat)]), (1, [.int .i64 (D.n : Nat)]), (1, [.slice (gA g.o) g.rs.length (gC g.o)])] 103) :: (Lx' ++ gRL 5 31 g)) ∧ G (i + 1) Lx')
    (Lx0 : List (Nat × Blk)) (h0 : G 0 Lx0) (w : World) (hp0 : HP w0 w O ((l, lrec .ready none fn tm ps ac bo D0) :: (D0, dref (some [])) :: (b, .cells [(1, [.pointer (some ⟨j, 0, none⟩)])] 27) :: (j, .cells [(1, [.pointer (some ⟨K.d, 0, none⟩)]), (1, [.int .i64 (g.rs.length : Nat)]), (1, [.int .i64 (D.n : Nat)]), (1, [.slice (gA g.o) g.rs.length (gC g.o)])] 103) :: (Lx0 ++ gRL 5 31 g))) :
    Calls Try.prog 74 [.func (.yield l) #[] #[], .pointer (some ⟨b, 0, none⟩)].toArray w (Itd ⟨Try.prog, 0, w0, O⟩ l D0 fn tm ps ac bo fun pe L' => pe = none ∧ ∃ Lx', L' = ((b, .cells [(1, [.pointer (some ⟨j, 0, none⟩)])] 27) :: (j, .cells [(1, [.pointer (some ⟨K.d, 0, none⟩)]), (1, [.int .i64 (g.rs.length : Nat)]), (1, [.int .i64 (D.n : Nat)]), (1, [.slice (gA g.o) g.rs.length (gC g.o)])] 103) :: (Lx' ++ gRL 5 31 g)) ∧ G g.rs.length Lx') := by
 refine calls_of_W0 Try.func74 rfl Try.ntmps74 rfl rfl hp0 ?_
 refine sr ?_
 refine oas ?_
 refine nq ?_
 refine W.block ?_
 -- LOOP 0
 refine W.pick (S' := [(3, _), (0, _), (1, _)]) [3, 0, 1] rfl ?_
 refine W.loopG (σ := Nat × List (Nat × Blk)) (fun ⟨i, Lx⟩ => i ≤ g.rs.length ∧ G i Lx) (fun ⟨i, Lx⟩ => [(3, .int .i64 (i : Nat))]) (fun ⟨i, Lx⟩ => []) [(l, _), (D0, _), (b, _), (j, _)] (fun ⟨i, Lx⟩ => Lx ++ gRL 5 31 g) (fun ⟨i, Lx⟩ => g.rs.length - i) (0, Lx0) rfl cov ⟨Nat.zero_le _, h0⟩ ?_
 rintro ⟨i, Lx⟩ ⟨hi, hG⟩; dsimp only at hi hG ⊢
 refine W.seq ?_
 refine sr ?_
 refine omv ?_
 refine ov vld ?_
 refine ov vnil ?_
 refine ov (vfa 1 1) ?_
 refine ov vld ?_
 refine ov (v2 V_lss) ?_
 refine nq ?_
 refine W.cond_dec rfl (fun g1 => ?_) (fun g1 => ?_)
 · refine W.skip ?_
   refine WQ.then ?_
   refine W.seq ?_
   refine W.block ?_
   refine W.seq ?_
   obtain ⟨gb, gc, grs, hgo, hgc⟩ := GrOK.open hg.1 (by omega)
   obtain ⟨rv, hrv⟩ : ∃ rv, g.rs[i]? = some rv := ⟨_, List.getElem?_eq_getElem (by omega)⟩
   have hrm := List.mem_of_getElem? hrv
   have hrn := hgl rv hrm
   have hrl : g.ll.getD i [] = rv.l := by unfold GR.ll; rw [List.getD_eq_getElem?_getD, List.getElem?_map, hrv]; rfl
   refine W.splitAt 11 ?_
   dsimp only [List.take_succ_cons, List.take_zero]
   refine omv ?_
   refine omv ?_
   refine obsI (k := .u8) 5 1 [] (fun b14 => ?_)
   refine ov vld ?_
   refine ov vnil ?_
   refine ov (vfa 3 1) ?_
   refine ov vld ?_
   refine omv ?_
   refine ov (viR hgo) ?_
   refine ov (vldR hgo hrv hg) ?_
   refine oap0 (k := .u8) (l2 := rv.l) 5 1 (fun b22 c22 r22 h22 => ?_) (hs := fun w hp => GR.row hp hrm) (hb := by omega) (hl := by omega)
   refine WL.toK ?_
   refine wy (Rd.cov (hround i Lx ⟨b22, rv.n, c22, r22, rv.l⟩ (by omega) hG ⟨hrl.symm, (hg.2 rv hrm).1, h22, (hg.2 rv hrm).2.2⟩)) ?_ hps.symm
   rintro _ _ ⟨rfl, Lx', rfl, hG'⟩
   refine WK.restAt 11 ?_
   dsimp only [Nat.reduceAdd, List.drop_succ_cons, List.drop_zero]
   refine ov vnot ?_
   refine WL.endK ?_
   refine WQ.then ?_
   refine W.cond_false rfl rfl ?_
   refine W.skip ?_
   refine WQ.block_normal ?_
   refine WQ.then ?_
   refine W.region ?_
   refine omv ?_
   first | refine ov vaddN ?_ | refine ov vadd ?_
   refine oas ?_
   refine WL.nil ?_
   exact ag (i + 1, Lx') [3, 0, 1] (by (try dsimp only); exact ⟨by omega, hG'⟩) (by (try dsimp only); omega) rfl cov
 · refine W.exit ?_
   refine WQ.then_exit ?_
   refine WQ.then_exit ?_
   refine WQ.block_hit ?_
   refine WQ.ret0 (.inr rfl) Try.results74 ?_
   intro w' hp; obtain rfl : i = g.rs.length := by omega
   exact ⟨_, .ready, none, _, rfl, by simp, hp.cov cov, rfl, Lx, rfl, hG⟩

end Go.Proofs.Ytnpnnafcdnefiaa