/- Who judges: begun; verdicts. -/
import Derived.Test.YtmeckbjinmgbbaaGreatMod
import Derived.Test.YtmeckbjinmgbbaaGreatBRef
import Derived.Test.YtmeckbjinmgbbaaGreatMsa
set_option linter.unusedVariables false
set_option linter.unusedSimpArgs false

namespace Go.Proofs.YtmeckbjinmgbbaaGreat
open Go.X
/-- An account's tokens: where they lie, since when, how many. -/
abbrev Tok := Nat × Int × Int
def tkP (l : List Tok) : List Nat := l.map (·.1)
def tkB (x : Tok) : Nat × Blk := (x.1, .cells (bkt 2 50 x.2.1 x.2.2) 182)
def Tok0 (l : List Tok) : Prop := l.length = 8 ∧ ∀ x ∈ l, x.2 = (0, 2)
def modG (a0 a1 a2 a3 : Value) (vs : List Value) : List Seg := [(1, [a0]), (1, [a1]), (1, [a2]), (1, [a3]), (8, vs)]
def tkV (l : List Tok) : List Value := (tkP l).map (fun p => Value.pointer (some ⟨p, 0, none⟩)) ++ List.replicate (8 - l.length) (.pointer none)
theorem modG_set {a0 a1 a2 a3 v : Value} {vs : List Value} {k : Nat} : flat (modG a0 a1 a2 a3 (vs.set k v)) = (flat (modG a0 a1 a2 a3 vs)).set (4 + k) v := by
  unfold modG flat
  simp only [List.flatMap_cons, List.flatMap_nil, List.append_nil, List.singleton_append]
  rw [show 4 + k = k + 1 + 1 + 1 + 1 by omega]; rfl
theorem tkV_len {l : List Tok} (h : l.length ≤ 8) : (tkV l).length = 8 := by simp [tkV, tkP]; omega
theorem tkV_set {l : List Tok} {x : Tok} {i : Nat} (hi : l.length = i) (h : i < 8) : (tkV l).set i (.pointer (some ⟨x.1, 0, none⟩)) = tkV (l ++ [x]) := by
  subst hi
  obtain ⟨k, hk⟩ : ∃ k, 8 - l.length = k + 1 := ⟨7 - l.length, by omega⟩
  unfold tkV tkP
  rw [List.set_append_right _ _ (by simp), hk, List.length_append, List.length_singleton, show 8 - (l.length + 1) = k by omega]
  simp [List.replicate_succ]
theorem tkV_full {l : List Tok} (h : l.length = 8) : tkV l = (tkP l).map fun p => Value.pointer (some ⟨p, 0, none⟩) := by
  unfold tkV; rw [h]; simp
section
variable {c : Cx} {Q : Post} {S : Slots} {L L' Lr : List (Nat × Blk)} {ops : Array Oper} {ty T : TypeId} {pos : String} {af : Array Edge} {rest : List Oper} {x y : Operand} {i : Nat} {p : Plan} {g : Option (Nat × Bool)}
theorem ostTk {b o : Nat} {a0 a1 a2 a3 v : Value} {vs : List Value} {t : TypeId} (k : Nat) (K : WL c ops Q rest S L') (hk : k < vs.length) (hl : vs.length = 8) (h1 : Go.X.one v = true := by rfl) (hx : ev S x = some (.pointer (some ⟨b, o, none⟩)) := by exact rfl) (hq : o = 4 + k := by first | rfl | omega) (hy : ev S y = some v := by exact rfl)
    (hu : Upd b (.cells (modG a0 a1 a2 a3 (vs.set k v)) t) L (.cells (modG a0 a1 a2 a3 vs) t) L' := by exact upd) (ht : szB c.P T 1 = true := by kernel_rfl) : WL c ops Q (⟨none, .store T x y, ty, pos, af, none⟩ :: rest) S L :=
  WL.eff (d := none) rfl (E_storeF ht hx hy h1 hu (by subst hq; simp [modG, flat]; omega) (fun hf => by
    obtain ⟨h1, h2⟩ := hf.cons; obtain ⟨h3, h4⟩ := h2.cons; obtain ⟨h5, h6⟩ := h4.cons; obtain ⟨h7, h8⟩ := h6.cons; obtain ⟨h9, _⟩ := h8.cons
    exact Fit.mk rfl (Fit.mk rfl (Fit.mk rfl (Fit.mk rfl (Fit.mk (by simpa using h9) Fit.nil))))) (by subst hq; exact modG_set)) fun v M ⟨_, hM⟩ => by subst hM; exact K
end
theorem b250 : bmayB 2 50 := by unfold bmayB; decide
/-- A strike that is there already is as good as one that is new. -/
def stE (e : Int) : Int := if e = 9 then 0 else e

theorem new24_calls (R b : Nat) (w : World) :
    Calls Tryz.prog 30 [.pointer (some ⟨R, 0, none⟩), .pointer (some ⟨b, 0, none⟩)].toArray w fun e w' => ∃ r : Nat × Nat × List Tok, Tok0 r.2.2 ∧ e = .returned (.tuple #[.pointer (some ⟨r.1, 0, none⟩), .int .i64 0]) ∧ HP w w' [] ((r.1, .cells (modS R b none 0 r.2.1 (tkP r.2.2)) 91) :: (r.2.1, .obj (mapO .i64 [] 0)) :: r.2.2.map tkB) := by
 refine calls_of_W Tryz.func30 rfl Tryz.ntmps30 rfl rfl (HP.refl w []) ?_
 refine sr ?_
 refine oas ?_
 refine oas ?_
 refine nq ?_
 refine W.seq ?_
 refine sr ?_
 refine omv ?_
 refine ov (V_eqlP (by kernel_rfl) rfl rfl) ?_
 refine omv ?_
 refine oy rfl rfl ?_
 refine omv ?_
 refine oy rfl rfl ?_
 refine ov (V_eqlP (by kernel_rfl) rfl rfl) ?_
 refine ov (V_pick_f rfl rfl rfl) ?_
 refine nq ?_
 refine W.cond_false rfl rfl ?_
 refine W.skip ?_
 refine WQ.then ?_
 refine sr ?_
 refine omv ?_
 refine omv ?_
 refine omk (fun b18 => ?_)
 refine ov (V_build (by kernel_rfl) (zi (zs := [(1, [.pointer none]), (1, [.pointer none]), (1, [.slice none 0 0]), (1, [.map none]), (8, List.replicate 8 (.pointer none))])) (.one (k := 0) rfl rfl (by kernel_rfl) rfl (.one (k := 1) rfl rfl (by kernel_rfl) rfl (.one (k := 3) rfl rfl (by kernel_rfl) rfl (.nil _))))) ?_
 refine obxa (fun b20 => ?_)
 refine oas ?_
 refine nq ?_
 refine W.seq ?_
 refine sr ?_
 refine omv ?_
 refine nq ?_
 refine W.block ?_
 -- LOOP 0
 refine W.pick (S' := [(21, _), (0, _), (1, _), (4, _), (5, _), (6, _), (15, _)]) [21, 0, 1, 4, 5, 6, 15] rfl ?_
 refine W.loopG (σ := Nat × List Tok) (fun ⟨i, l⟩ => i ≤ 8 ∧ l.length = i ∧ ∀ x ∈ l, x.2 = (0, 2)) (fun ⟨i, l⟩ => [(21, .int .i64 (i : Nat))]) (fun ⟨i, l⟩ => [(b20, .cells (modG (.pointer (some ⟨R, 0, none⟩)) (.pointer (some ⟨b, 0, none⟩)) (.slice none 0 0) (.map (some b18)) (tkV l)) 91)]) [(b18, _)] (fun ⟨i, l⟩ => l.map tkB) (fun ⟨i, l⟩ => 8 - i) (0, []) rfl cov ⟨Nat.zero_le _, rfl, fun x hx => (List.not_mem_nil hx).elim⟩ ?_
 rintro ⟨i, l⟩ ⟨hi, hli, hn⟩; dsimp only at hi hli hn ⊢
 refine sr ?_
 refine ov (v2 V_lss) ?_
 refine nq ?_
 refine W.seq ?_
 refine W.cond_dec rfl (fun g1 => ?_) (fun g1 => ?_)
 · refine W.skip ?_
   refine WQ.then ?_
   refine W.seq ?_
   refine W.block ?_
   refine sr ?_
   refine omv ?_
   refine oas ?_
   refine nx ?_
   refine cg rfl (fun w hp => new_calls 2 50 w b250) (fun b25 h25 => ?_)
   refine omv ?_
   refine ov vex ?_
   refine ov vex ?_
   refine oas ?_
   refine oas ?_
   refine nq ?_
   refine W.seq ?_
   refine sr ?_
   refine omv ?_
   refine ov (v2 V_neq) ?_
   refine nq ?_
   refine W.cond_false rfl (by decide) ?_
   refine W.skip ?_
   refine WQ.then ?_
   refine W.region ?_
   refine omv ?_
   refine omv ?_
   refine omv ?_
   refine ov vnil ?_
   refine ov (vfa0 4 8) ?_
   first | refine ov (viAP 8) ?_ | refine ov (viAPZ 8) ?_
   refine ostTk i ?_ (by rw [tkV_len (by omega)]; omega) (tkV_len (by omega)) (vs := tkV l) (v := .pointer (some ⟨b25, 0, none⟩))
   refine WL.nil ?_
   refine WQ.block_normal ?_
   refine WQ.then ?_
   refine W.region ?_
   first | refine ov vaddN ?_ | refine ov vadd ?_
   refine omv ?_
   refine WL.nil ?_
   exact ag ((i + 1, l ++ [(b25, 0, 2)])) [21, 0, 1, 4, 5, 6, 15] (by (try dsimp only); exact ⟨by omega, by simp; omega, fun x hx => by
     rcases List.mem_append.1 hx with h | h
     · exact hn x h
     · rw [List.mem_singleton.1 h]⟩) (by (try dsimp only); omega) rfl (by dsimp only; rw [List.map_append, ← tkV_set hli (by omega)]; exact cov)
 · refine W.exit ?_
   refine WQ.then_exit ?_
   refine WQ.then_exit ?_
   refine WQ.block_hit ?_
   refine WQ.then ?_
   refine sr ?_
   refine omv ?_
   refine oas ?_
   refine oas ?_
   refine nq ?_
   refine W.ret ?_
   refine WQ.ret2 Tryz.results30 (.tmp rfl) (.tmp rfl) ?_
   intro w' hp; obtain rfl : i = 8 := by omega
   rw [tkV_full hli] at hp
   exact ⟨(b20, b18, l), ⟨hli, hn⟩, rfl, hp.cov cov⟩

theorem strike24_calls (K : DK) (D : DS) (hok : DOK D) (j : Nat) (g : GR) (hg : g.OK) (hgn : g.rs.length ≤ D.n) (b mb : Nat) (S : LS) (hls : LOK S) (r0 : RepS) (hr : RepOK r0) (now : Int) (w : World) (hp0 : HP w w (((K.d, .cells [(1, [.slice (some ⟨K.s, 0, none⟩) D.n D.n]), (1, [.map (some K.m)]), (1, [.int .i64 D.fuse]), (1, [.bool D.dead])] 74) :: (K.s, .cells [(D.n * 64, iv .u8 D.sure.flatten)] 115) :: (K.m, .obj (mapO .i64 (D.m.map sE) D.ck)) :: (j, .cells [(1, [.pointer (some ⟨K.d, 0, none⟩)]), (1, [.int .i64 (g.rs.length : Nat)]), (1, [.int .i64 (D.n : Nat)]), (1, [.slice (gA g.o) g.rs.length (gC g.o)])] 146) :: (b, .cells [(1, [.pointer (some ⟨j, 0, none⟩)]), (1, [.map (some mb)])] 110) :: (mb, .obj (mapO .i64 (S.m.map (gE stkV)) S.ck)) :: gRL 5 35 g : List (Nat × Blk)).map (·.1)) ((K.d, .cells [(1, [.slice (some ⟨K.s, 0, none⟩) D.n D.n]), (1, [.map (some K.m)]), (1, [.int .i64 D.fuse]), (1, [.bool D.dead])] 74) :: (K.s, .cells [(D.n * 64, iv .u8 D.sure.flatten)] 115) :: (K.m, .obj (mapO .i64 (D.m.map sE) D.ck)) :: (j, .cells [(1, [.pointer (some ⟨K.d, 0, none⟩)]), (1, [.int .i64 (g.rs.length : Nat)]), (1, [.int .i64 (D.n : Nat)]), (1, [.slice (gA g.o) g.rs.length (gC g.o)])] 146) :: (b, .cells [(1, [.pointer (some ⟨j, 0, none⟩)]), (1, [.map (some mb)])] 110) :: (mb, .obj (mapO .i64 (S.m.map (gE stkV)) S.ck)) :: gRL 5 35 g : List (Nat × Blk))) :
    Calls Tryz.prog 188 [AG [(1, [.pointer (some ⟨b, 0, none⟩)])], AG r0.V, .int .i64 now].toArray w fun e w' => ∃ r : GR, (r.OK ∧ r.ll = goL D g.ll (adQ S r0.st.fr r0.id now)) ∧ e = .returned (.int .i64 (stE (goE D g.rs.length (adQ S r0.st.fr r0.id now)))) ∧ HP w w' (((K.d, .cells [(1, [.slice (some ⟨K.s, 0, none⟩) D.n D.n]), (1, [.map (some K.m)]), (1, [.int .i64 D.fuse]), (1, [.bool D.dead])] 74) :: (K.s, .cells [(D.n * 64, iv .u8 D.sure.flatten)] 115) :: (K.m, .obj (mapO .i64 (D.m.map sE) D.ck)) :: (j, .cells [(1, [.pointer (some ⟨K.d, 0, none⟩)]), (1, [.int .i64 (g.rs.length : Nat)]), (1, [.int .i64 (D.n : Nat)]), (1, [.slice (gA g.o) g.rs.length (gC g.o)])] 146) :: (b, .cells [(1, [.pointer (some ⟨j, 0, none⟩)]), (1, [.map (some mb)])] 110) :: (mb, .obj (mapO .i64 (S.m.map (gE stkV)) S.ck)) :: gRL 5 35 g : List (Nat × Blk)).map (·.1)) ((K.d, .cells [(1, [.slice (some ⟨K.s, 0, none⟩) (goD D g.rs.length (adQ S r0.st.fr r0.id now)).n (goD D g.rs.length (adQ S r0.st.fr r0.id now)).n]), (1, [.map (some K.m)]), (1, [.int .i64 (goD D g.rs.length (adQ S r0.st.fr r0.id now)).fuse]), (1, [.bool (goD D g.rs.length (adQ S r0.st.fr r0.id now)).dead])] 74) :: (K.s, .cells [((goD D g.rs.length (adQ S r0.st.fr r0.id now)).n * 64, iv .u8 (goD D g.rs.length (adQ S r0.st.fr r0.id now)).sure.flatten)] 115) :: (K.m, .obj (mapO .i64 ((goD D g.rs.length (adQ S r0.st.fr r0.id now)).m.map sE) (goD D g.rs.length (adQ S r0.st.fr r0.id now)).ck)) :: (j, .cells [(1, [.pointer (some ⟨K.d, 0, none⟩)]), (1, [.int .i64 (r.rs.length : Nat)]), (1, [.int .i64 ((goD D g.rs.length (adQ S r0.st.fr r0.id now)).n : Nat)]), (1, [.slice (gA r.o) r.rs.length (gC r.o)])] 146) :: (b, .cells [(1, [.pointer (some ⟨j, 0, none⟩)]), (1, [.map (some mb)])] 110) :: (mb, .obj (mapO .i64 ((goS D g.rs.length S (adQ S r0.st.fr r0.id now)).m.map (gE stkV)) (goS D g.rs.length S (adQ S r0.st.fr r0.id now)).ck)) :: gRL 5 35 r : List (Nat × Blk)) := by
 have hn1 := hok.n1
 have hn64 := hok.n64
 obtain ⟨ho, hob, hc, hcb, ht, htb, htl, htc⟩ := hr
 unfold RepS.V
 refine calls_of_W Tryz.func188 rfl Tryz.ntmps188 rfl rfl hp0 ?_
 refine sr ?_
 refine obxa (fun b3 => ?_)
 refine obxa (fun b4 => ?_)
 refine oas ?_
 refine nx ?_
 refine ov (vfa0 0 1) ?_
 refine ov vld ?_
 refine ov (vfa0 35 68) ?_
 refine ov (vfa 1 1) ?_
 refine ov vld ?_
 refine ov (vfa0 0 1) ?_
 refine ov vld ?_
 refine omv ?_
 refine cgP _ rfl (fun w hp => add23_calls K D hok j g hg hgn b mb S hls r0.st.fr r0.id now w (HP.here hp cov)) (fun r16 h16 => ?_)
 simp only [List.cons_append, List.nil_append, List.append_nil, List.append_assoc]
 refine WL.back (gRL 5 35 r16) ?_
 simp only [List.cons_append, List.nil_append, List.append_nil, List.append_assoc]
 refine oas ?_
 refine nq ?_
 refine W.seq ?_
 refine sr ?_
 refine omv ?_
 refine ov (v2 V_eql) ?_
 refine nq ?_
 refine W.cond_dec rfl (fun g1 => ?_) (fun g1 => ?_)
 · refine W.seq ?_
   refine W.region ?_
   refine oas ?_
   refine nq ?_
   refine W.ret ?_
   refine WQ.then_ret ?_
   refine WQ.ret1 Tryz.results188 (.tmp rfl) ?_
   intro w' hp; refine ⟨r16, h16, ?_, hp.cov cov⟩; rw [show stE (goE D g.rs.length (adQ S r0.st.fr r0.id now)) = 0 from if_pos (by assumption)]
 · refine W.skip ?_
   refine WQ.then ?_
   refine sr ?_
   refine omv ?_
   refine oas ?_
   refine nq ?_
   refine W.ret ?_
   refine WQ.ret1 Tryz.results188 (.tmp rfl) ?_
   intro w' hp; refine ⟨r16, h16, ?_, hp.cov cov⟩; rw [show stE (goE D g.rs.length (adQ S r0.st.fr r0.id now)) = goE D g.rs.length (adQ S r0.st.fr r0.id now) from if_neg (by assumption)]

end Go.Proofs.YtmeckbjinmgbbaaGreat