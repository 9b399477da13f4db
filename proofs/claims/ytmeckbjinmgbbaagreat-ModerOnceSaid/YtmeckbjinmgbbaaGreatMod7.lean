/- Who judges, whole. -/
import Derived.Test.YtmeckbjinmgbbaaGreatMod6
set_option linter.unusedVariables false
set_option linter.unusedSimpArgs false

namespace Go.Proofs.YtmeckbjinmgbbaaGreat
open Go.X
theorem frm {P : Program} {f : FuncId} {args : Array Value} {w : World} {O : List Nat} {L M0 Lr : List (Nat × Blk)} {ι : Type} {A : ι → Prop} {V : ι → Value} {M : ι → List (Nat × Blk)} (hp : HP w w O L) (hd : L.Perm (M0 ++ Lr))
    (hc : HP w w (M0.map (·.1)) M0 → Calls P f args w fun e w' => ∃ r : ι, A r ∧ e = .returned (V r) ∧ HP w w' (M0.map (·.1)) (M r)) : Calls P f args w fun e w' => ∃ r : ι, A r ∧ e = .returned (V r) ∧ HP w w' O (M r ++ Lr) :=
  (hc (HP.here hp (Cov.ofPerm hd))).mono fun e w' ⟨r, h1, h2, h3⟩ => ⟨r, h1, h2, hp.transP hd h3⟩
theorem frm2 {P : Program} {f : FuncId} {args : Array Value} {w : World} {O : List Nat} {L M0 Le Ls : List (Nat × Blk)} {ι : Type} {A : ι → Prop} {V : ι → Value} {M : ι → List (Nat × Blk)} (hp : HP w w O L) (hd : L.Perm (M0 ++ (Le ++ Ls)))
    (hc : HP w w (M0.map (·.1)) M0 → Calls P f args w fun e w' => ∃ r : ι, A r ∧ e = .returned (V r) ∧ HP w w' (M0.map (·.1)) (M r)) : Calls P f args w fun e w' => ∃ r : ι, A r ∧ e = .returned (V r) ∧ HP w w' O (Le ++ (M r ++ Ls)) :=
  (frm hp hd hc).mono fun e w' ⟨r, h1, h2, h3⟩ => ⟨r, h1, h2, h3.perm (by rw [← List.append_assoc, ← List.append_assoc]; exact List.perm_append_comm.append_right _)⟩
theorem frm0 {P : Program} {f : FuncId} {args : Array Value} {w : World} {O : List Nat} {L : List (Nat × Blk)} {v : Value} (hp : HP w w O L) (hc : Calls P f args w fun e w' => e = .returned v ∧ HP w w' [] []) : Calls P f args w fun e w' => e = .returned v ∧ HP w w' O L :=
  hc.mono fun e w' ⟨h2, h3⟩ => ⟨h2, hp.transP (M0 := []) (.refl _) h3⟩
/-- Where who judges lies. -/
structure MA where
  K : DK
  j : Nat
  b : Nat
  mb : Nat
  M : Nat
  jm : Nat
  R : Rel
/-- What who judges has. -/
structure MW where
  D : DS
  g : GR
  S : LS
  o : Gr
  rs : List RL
  J : List Ent
  jc : Nat
  tk : List Tok
  m : List Ent
  ck : Nat
structure MOK (rl : List Int) (x : MW) : Prop where
  d : DOK x.D
  g : x.g.OK
  gn : x.g.rs.length ≤ x.D.n
  s : LOK x.S
  o : GrOK x.o x.rs.length
  rs : RsOK x.rs
  j : JOK x.J
  t8 : x.tk.length = 8
  tk : ∀ t ∈ x.tk, OkB 2 50 t.2.1 t.2.2
  m : Good rl x.m
def qs (x : MW) : List AR := x.rs.map (·.1)

def mwL (rl : List Int) (P : MA) (x : MW) : List (Nat × Blk) := hid 0 ((P.K.d, .cells [(1, [.slice (some ⟨P.K.s, 0, none⟩) x.D.n x.D.n]), (1, [.map (some P.K.m)]), (1, [.int .i64 x.D.fuse]), (1, [.bool x.D.dead])] 74) :: (P.K.s, .cells [(x.D.n * 64, iv .u8 x.D.sure.flatten)] 115) :: (P.K.m, .obj (mapO .i64 (x.D.m.map sE) x.D.ck)) :: (P.j, .cells [(1, [.pointer (some ⟨P.K.d, 0, none⟩)]), (1, [.int .i64 (x.g.rs.length : Nat)]), (1, [.int .i64 (x.D.n : Nat)]), (1, [.slice (gA x.g.o) x.g.rs.length (gC x.g.o)])] 146) :: (P.b, .cells [(1, [.pointer (some ⟨P.j, 0, none⟩)]), (1, [.map (some P.mb)])] 110) :: (P.mb, .obj (mapO .i64 (x.S.m.map (gE stkV)) x.S.ck)) :: (P.M, .cells (modS P.R.r P.b x.o x.rs.length P.jm (tkP x.tk)) 91) :: (P.jm, .obj (mapO .i64 x.J x.jc)) :: (P.R.r, .cells [(1, [.int .i64 5]), (1, [.map (some P.R.m)]), (1, [.func (.func 56) #[] #[.pointer (some ⟨P.R.v, 0, none⟩), .pointer (some ⟨P.R.k, 0, none⟩)]])] 141) :: (P.R.m, .obj (mapO .i64 x.m x.ck)) :: (P.R.v, .cells [(1, [.pointer (some ⟨P.R.r, 0, none⟩)])] 75) :: (P.R.k, .cells [(32, iv .u8 rl)] 23) :: ((gLM 103 x.o x.rs.length (x.rs.flatMap rlV) 69) ++ ((x.rs.flatMap rbL) ++ (x.tk.map tkB ++ gRL 5 35 x.g))))

/-- What an Intake does. -/
def InR (e : Int) (a : AR) (x r : MW) : Prop := r.D = x.D ∧ r.g = x.g ∧ r.S = x.S ∧ r.J = x.J ∧ r.jc = x.jc ∧ r.tk = x.tk ∧ qs r = inQ e a (qs x)
theorem in24_w (rl : List Int) (P : MA) (x : MW) (hx : MOK rl x) (hrl : rl.length = 32) (hrb : bytes rl) (A : Option Addr) (n cap : Nat) (l : List Int) (now : Int) (hb : bytes l) (hn : n ≤ cap) (hn2 : n ≤ 1000000) (h0 : repE l = 0) (w : World) (hp0 : HP w w ((mwL rl P x).map (·.1)) (mwL rl P x)) (hs : ∀ w' L, HP w w' ((mwL rl P x).map (·.1)) L → SrW w' 1 A n (iv .u8 l)) :
    Calls Tryz.prog 9 [.pointer (some ⟨P.M, 0, none⟩), .slice A n cap, .int .i64 now].toArray w fun e w' => ∃ r : MW, (MOK rl r ∧ InR (inE rl (rdA l) now (qs x) (jB x.J) x.S) (rdA l) x r) ∧ e = .returned (.tuple #[.int .i64 (inI (inE rl (rdA l) now (qs x) (jB x.J) x.S) (rdA l)), .int .i64 (inE rl (rdA l) now (qs x) (jB x.J) x.S)]) ∧ HP w w' ((mwL rl P x).map (·.1)) (mwL rl P r) := by
  unfold mwL at hp0 hs ⊢
  simp only [hid0] at hp0 hs ⊢
  have hd : (((P.K.d, .cells [(1, [.slice (some ⟨P.K.s, 0, none⟩) x.D.n x.D.n]), (1, [.map (some P.K.m)]), (1, [.int .i64 x.D.fuse]), (1, [.bool x.D.dead])] 74) :: (P.K.s, .cells [(x.D.n * 64, iv .u8 x.D.sure.flatten)] 115) :: (P.K.m, .obj (mapO .i64 (x.D.m.map sE) x.D.ck)) :: (P.j, .cells [(1, [.pointer (some ⟨P.K.d, 0, none⟩)]), (1, [.int .i64 (x.g.rs.length : Nat)]), (1, [.int .i64 (x.D.n : Nat)]), (1, [.slice (gA x.g.o) x.g.rs.length (gC x.g.o)])] 146) :: (P.b, .cells [(1, [.pointer (some ⟨P.j, 0, none⟩)]), (1, [.map (some P.mb)])] 110) :: (P.mb, .obj (mapO .i64 (x.S.m.map (gE stkV)) x.S.ck)) :: (P.M, .cells (modS P.R.r P.b x.o x.rs.length P.jm (tkP x.tk)) 91) :: (P.jm, .obj (mapO .i64 x.J x.jc)) :: (P.R.r, .cells [(1, [.int .i64 5]), (1, [.map (some P.R.m)]), (1, [.func (.func 56) #[] #[.pointer (some ⟨P.R.v, 0, none⟩), .pointer (some ⟨P.R.k, 0, none⟩)]])] 141) :: (P.R.m, .obj (mapO .i64 x.m x.ck)) :: (P.R.v, .cells [(1, [.pointer (some ⟨P.R.r, 0, none⟩)])] 75) :: (P.R.k, .cells [(32, iv .u8 rl)] 23) :: ((gLM 103 x.o x.rs.length (x.rs.flatMap rlV) 69) ++ ((x.rs.flatMap rbL) ++ (x.tk.map tkB ++ gRL 5 35 x.g))) : List (Nat × Blk))).Perm (((P.M, .cells (modS P.R.r P.b x.o x.rs.length P.jm (tkP x.tk)) 91) :: (P.jm, .obj (mapO .i64 x.J x.jc)) :: (P.b, .cells [(1, [.pointer (some ⟨P.j, 0, none⟩)]), (1, [.map (some P.mb)])] 110) :: (P.mb, .obj (mapO .i64 (x.S.m.map (gE stkV)) x.S.ck)) :: (P.R.r, .cells [(1, [.int .i64 5]), (1, [.map (some P.R.m)]), (1, [.func (.func 56) #[] #[.pointer (some ⟨P.R.v, 0, none⟩), .pointer (some ⟨P.R.k, 0, none⟩)]])] 141) :: (P.R.m, .obj (mapO .i64 x.m x.ck)) :: (P.R.v, .cells [(1, [.pointer (some ⟨P.R.r, 0, none⟩)])] 75) :: (P.R.k, .cells [(32, iv .u8 rl)] 23) :: ((gLM 103 x.o x.rs.length (x.rs.flatMap rlV) 69) ++ (x.rs.flatMap rbL))) ++ ([(P.K.d, .cells [(1, [.slice (some ⟨P.K.s, 0, none⟩) x.D.n x.D.n]), (1, [.map (some P.K.m)]), (1, [.int .i64 x.D.fuse]), (1, [.bool x.D.dead])] 74), (P.K.s, .cells [(x.D.n * 64, iv .u8 x.D.sure.flatten)] 115), (P.K.m, .obj (mapO .i64 (x.D.m.map sE) x.D.ck)), (P.j, .cells [(1, [.pointer (some ⟨P.K.d, 0, none⟩)]), (1, [.int .i64 (x.g.rs.length : Nat)]), (1, [.int .i64 (x.D.n : Nat)]), (1, [.slice (gA x.g.o) x.g.rs.length (gC x.g.o)])] 146)] ++ (x.tk.map tkB ++ gRL 5 35 x.g))) := pr
  refine (frm2 hp0 hd fun hp => in24_calls P.R rl hrl hrb x.m x.ck hx.m P.M P.jm P.b P.mb P.j x.S hx.s x.o x.rs hx.o hx.rs x.J x.jc hx.j x.tk A n cap l now hb hn hn2 w h0 hp fun w1 M h1 => hs w1 _ (hp0.transP hd h1)).mono fun e w' ⟨q, ⟨h1, h2, h3, h4⟩, h5, h6⟩ => ⟨{ x with o := q.1.1, rs := q.1.2, m := q.2.1, ck := q.2.2 }, ⟨⟨hx.d, hx.g, hx.gn, hx.s, h1, h2, hx.j, hx.t8, hx.tk, h4⟩, rfl, rfl, rfl, rfl, rfl, rfl, h3⟩, h5, ?_⟩
  simp only [List.cons_append, List.nil_append, List.append_assoc] at h6 ⊢
  exact h6.cov cov

/-- What a Judge does. -/
structure JuR (q : Ask) (e id : Int) (i : Nat) (x r : MW) : Prop where
  d : r.D = goD x.D x.g.rs.length q
  g : r.g.OK ∧ r.g.ll = goL x.D x.g.ll q
  s : r.S = goS x.D x.g.rs.length x.S q
  q : qs r = juL e i (qs x)
  j : ∀ y, jB r.J y = if e = 0 ∧ id = y then true else jB x.J y
  tk : r.tk = x.tk
theorem goD_n {D : DS} {m : Nat} {q : Ask} : (goD D m q).n = D.n := by
  cases q with
  | inl e => rfl
  | inr l => exact apD_n

theorem MOK.go {rl : List Int} {x : MW} (hx : MOK rl x) {q : Ask} {r : GR} {o : Gr} {rs : List RL} {J : List Ent} {jc : Nat} {S : LS} (hr : r.OK ∧ r.ll = goL x.D x.g.ll q) (hD : DOK (goD x.D x.g.rs.length q)) (hn : r.rs.length ≤ x.D.n) (hS : LOK S) (ho : GrOK o rs.length) (hrs : RsOK rs) (hJ : JOK J) : MOK rl { x with D := goD x.D x.g.rs.length q, g := r, S := S, o := o, rs := rs, J := J, jc := jc } :=
  ⟨hD, hr.1, by show r.rs.length ≤ (goD x.D x.g.rs.length q).n; rw [goD_n]; exact hn, hS, ho, hrs, hJ, hx.t8, hx.tk, hx.m⟩
theorem juS_w (rl : List Int) (P : MA) (x : MW) (hx : MOK rl x) (id now : Int) (i : Nat) (hi : ridx (qs x) id = some i) (a : AR) (ha : (qs x)[i]? = some a) (w : World) (hp0 : HP w w ((mwL rl P x).map (·.1)) (mwL rl P x))
    (hq : DOK (goD x.D x.g.rs.length (adQ x.S a.st.fr a.id now)) ∧ LOK (goS x.D x.g.rs.length x.S (adQ x.S a.st.fr a.id now)) ∧ ∀ r : GR, r.OK ∧ r.ll = goL x.D x.g.ll (adQ x.S a.st.fr a.id now) → r.rs.length ≤ x.D.n) :
    Calls Tryz.prog 11 [.pointer (some ⟨P.M, 0, none⟩), .int .i64 id, .int .i64 1, .int .i64 now].toArray w fun e w' => ∃ r : MW, (MOK rl r ∧ JuR (adQ x.S a.st.fr a.id now) (stE (goE x.D x.g.rs.length (adQ x.S a.st.fr a.id now))) id i x r) ∧ e = .returned (.int .i64 (stE (goE x.D x.g.rs.length (adQ x.S a.st.fr a.id now)))) ∧ HP w w' ((mwL rl P x).map (·.1)) (mwL rl P r) := by
  unfold mwL at hp0 ⊢
  simp only [hid0] at hp0 ⊢
  obtain ⟨r0, hr0, e0⟩ : ∃ r0 : RL, x.rs[i]? = some r0 ∧ r0.1 = a := by
    unfold qs at ha; rw [List.getElem?_map, Option.map_eq_some_iff] at ha; exact ha
  subst e0
  have hd : (((P.K.d, .cells [(1, [.slice (some ⟨P.K.s, 0, none⟩) x.D.n x.D.n]), (1, [.map (some P.K.m)]), (1, [.int .i64 x.D.fuse]), (1, [.bool x.D.dead])] 74) :: (P.K.s, .cells [(x.D.n * 64, iv .u8 x.D.sure.flatten)] 115) :: (P.K.m, .obj (mapO .i64 (x.D.m.map sE) x.D.ck)) :: (P.j, .cells [(1, [.pointer (some ⟨P.K.d, 0, none⟩)]), (1, [.int .i64 (x.g.rs.length : Nat)]), (1, [.int .i64 (x.D.n : Nat)]), (1, [.slice (gA x.g.o) x.g.rs.length (gC x.g.o)])] 146) :: (P.b, .cells [(1, [.pointer (some ⟨P.j, 0, none⟩)]), (1, [.map (some P.mb)])] 110) :: (P.mb, .obj (mapO .i64 (x.S.m.map (gE stkV)) x.S.ck)) :: (P.M, .cells (modS P.R.r P.b x.o x.rs.length P.jm (tkP x.tk)) 91) :: (P.jm, .obj (mapO .i64 x.J x.jc)) :: (P.R.r, .cells [(1, [.int .i64 5]), (1, [.map (some P.R.m)]), (1, [.func (.func 56) #[] #[.pointer (some ⟨P.R.v, 0, none⟩), .pointer (some ⟨P.R.k, 0, none⟩)]])] 141) :: (P.R.m, .obj (mapO .i64 x.m x.ck)) :: (P.R.v, .cells [(1, [.pointer (some ⟨P.R.r, 0, none⟩)])] 75) :: (P.R.k, .cells [(32, iv .u8 rl)] 23) :: ((gLM 103 x.o x.rs.length (x.rs.flatMap rlV) 69) ++ ((x.rs.flatMap rbL) ++ (x.tk.map tkB ++ gRL 5 35 x.g))) : List (Nat × Blk))).Perm (((P.K.d, .cells [(1, [.slice (some ⟨P.K.s, 0, none⟩) x.D.n x.D.n]), (1, [.map (some P.K.m)]), (1, [.int .i64 x.D.fuse]), (1, [.bool x.D.dead])] 74) :: (P.K.s, .cells [(x.D.n * 64, iv .u8 x.D.sure.flatten)] 115) :: (P.K.m, .obj (mapO .i64 (x.D.m.map sE) x.D.ck)) :: (P.j, .cells [(1, [.pointer (some ⟨P.K.d, 0, none⟩)]), (1, [.int .i64 (x.g.rs.length : Nat)]), (1, [.int .i64 (x.D.n : Nat)]), (1, [.slice (gA x.g.o) x.g.rs.length (gC x.g.o)])] 146) :: (P.b, .cells [(1, [.pointer (some ⟨P.j, 0, none⟩)]), (1, [.map (some P.mb)])] 110) :: (P.mb, .obj (mapO .i64 (x.S.m.map (gE stkV)) x.S.ck)) :: (P.M, .cells (modS P.R.r P.b x.o x.rs.length P.jm (tkP x.tk)) 91) :: (P.jm, .obj (mapO .i64 x.J x.jc)) :: ((gLM 103 x.o x.rs.length (x.rs.flatMap rlV) 69) ++ ((x.rs.flatMap rbL) ++ gRL 5 35 x.g))) ++ ([(P.R.r, .cells [(1, [.int .i64 5]), (1, [.map (some P.R.m)]), (1, [.func (.func 56) #[] #[.pointer (some ⟨P.R.v, 0, none⟩), .pointer (some ⟨P.R.k, 0, none⟩)]])] 141), (P.R.m, .obj (mapO .i64 x.m x.ck)), (P.R.v, .cells [(1, [.pointer (some ⟨P.R.r, 0, none⟩)])] 75), (P.R.k, .cells [(32, iv .u8 rl)] 23)] ++ (x.tk.map tkB ++ []))) := pr
  refine (frm2 hp0 hd fun hp => judge24_strike P.K x.D hx.d P.j x.g hx.g hx.gn P.b P.mb x.S hx.s P.M P.jm x.tk P.R.r x.o x.rs hx.o hx.rs x.J x.jc id now i hi r0 hr0 w hp).mono fun e w' ⟨q, ⟨h1, h2, h3, h4⟩, h5, h6⟩ => ⟨{ x with D := goD x.D x.g.rs.length (adQ x.S r0.1.st.fr r0.1.id now), g := q.1, S := goS x.D x.g.rs.length x.S (adQ x.S r0.1.st.fr r0.1.id now), o := q.2.1, rs := q.2.2, J := juM (stE (goE x.D x.g.rs.length (adQ x.S r0.1.st.fr r0.1.id now))) id x.J x.jc, jc := juC (stE (goE x.D x.g.rs.length (adQ x.S r0.1.st.fr r0.1.id now))) id x.J x.jc }, ⟨hx.go h1 hq.1 (hq.2.2 q.1 h1) hq.2.1 h2 h3 (juM_ok hx.j), rfl, h1, rfl, h4, fun y => juM_b, rfl⟩, h5, ?_⟩
  simp only [List.cons_append, List.nil_append, List.append_assoc] at h6 ⊢
  exact h6.cov cov

theorem mwL_M {rl : List Int} {P : MA} {x : MW} {w0 w : World} {O : List Nat} {L L' : List (Nat × Blk)} (hx : MOK rl x) (hp : HP w0 w O L) (hd : DelL (mwL rl P x) L L' := by exact dell) : AtW w P.M (modS P.R.r P.b x.o x.rs.length P.jm (tkP x.tk)) ∧ SrW w 103 (gA x.o) x.rs.length (x.rs.flatMap rlV) ∧ ∀ r ∈ x.rs, SrW w 1 (gA r.2) r.1.tl.length (iv .u8 r.1.tl) := by
  have h1 := hp.perm hd.perm.symm
  unfold mwL at h1
  simp only [hid0, List.cons_append, List.append_assoc] at h1
  exact ⟨HP.atw h1 (by repeat (first | exact List.Mem.head _ | apply List.Mem.tail)), rlsS h1 hx.o hx.rs.1, fun r hr => rbS h1 hr (hx.rs.1 r hr)⟩
theorem juN_w (rl : List Int) (P : MA) (x : MW) (hx : MOK rl x) (id by' now : Int) (hy : by' = 1 ∨ by' = 2) (hi : ridx (qs x) id = none) (w : World) (hp0 : HP w w ((mwL rl P x).map (·.1)) (mwL rl P x)) :
    Calls Tryz.prog 11 [.pointer (some ⟨P.M, 0, none⟩), .int .i64 id, .int .i64 by', .int .i64 now].toArray w fun e w' =>  e = .returned (.int .i64 7) ∧ HP w w' ((mwL rl P x).map (·.1)) (mwL rl P x) := by
  obtain ⟨h1, h2, h3⟩ := mwL_M hx hp0 (L' := []) .last
  exact frm0 hp0 (judge24_none P.M P.R.r P.b P.jm x.tk x.o x.rs hx.o hx.rs id by' now w h1 h2 hy hi)
theorem count_w (rl : List Int) (P : MA) (x : MW) (hx : MOK rl x) (hlen : x.S.m.length ≤ 1000000) (a now : Int) (hnow : -9223372036854775808 ≤ now ∧ now ≤ 9223372036854775807) (w : World) (hp0 : HP w w ((mwL rl P x).map (·.1)) (mwL rl P x)) :
    Calls Tryz.prog 13 [.pointer (some ⟨P.b, 0, none⟩), .int .i64 a, .int .i64 now].toArray w fun e w' => e = .returned (.int .i64 (cnt x.S.m a now : Nat)) ∧ HP w w' ((mwL rl P x).map (·.1)) (mwL rl P x) := by
  unfold mwL at hp0 ⊢
  simp only [hid0] at hp0 ⊢
  have hd : (((P.K.d, .cells [(1, [.slice (some ⟨P.K.s, 0, none⟩) x.D.n x.D.n]), (1, [.map (some P.K.m)]), (1, [.int .i64 x.D.fuse]), (1, [.bool x.D.dead])] 74) :: (P.K.s, .cells [(x.D.n * 64, iv .u8 x.D.sure.flatten)] 115) :: (P.K.m, .obj (mapO .i64 (x.D.m.map sE) x.D.ck)) :: (P.j, .cells [(1, [.pointer (some ⟨P.K.d, 0, none⟩)]), (1, [.int .i64 (x.g.rs.length : Nat)]), (1, [.int .i64 (x.D.n : Nat)]), (1, [.slice (gA x.g.o) x.g.rs.length (gC x.g.o)])] 146) :: (P.b, .cells [(1, [.pointer (some ⟨P.j, 0, none⟩)]), (1, [.map (some P.mb)])] 110) :: (P.mb, .obj (mapO .i64 (x.S.m.map (gE stkV)) x.S.ck)) :: (P.M, .cells (modS P.R.r P.b x.o x.rs.length P.jm (tkP x.tk)) 91) :: (P.jm, .obj (mapO .i64 x.J x.jc)) :: (P.R.r, .cells [(1, [.int .i64 5]), (1, [.map (some P.R.m)]), (1, [.func (.func 56) #[] #[.pointer (some ⟨P.R.v, 0, none⟩), .pointer (some ⟨P.R.k, 0, none⟩)]])] 141) :: (P.R.m, .obj (mapO .i64 x.m x.ck)) :: (P.R.v, .cells [(1, [.pointer (some ⟨P.R.r, 0, none⟩)])] 75) :: (P.R.k, .cells [(32, iv .u8 rl)] 23) :: ((gLM 103 x.o x.rs.length (x.rs.flatMap rlV) 69) ++ ((x.rs.flatMap rbL) ++ (x.tk.map tkB ++ gRL 5 35 x.g))) : List (Nat × Blk))).Perm ([(P.b, .cells [(1, [.pointer (some ⟨P.j, 0, none⟩)]), (1, [.map (some P.mb)])] 110), (P.mb, .obj (mapO .i64 (x.S.m.map (gE stkV)) x.S.ck))] ++ ([(P.K.d, .cells [(1, [.slice (some ⟨P.K.s, 0, none⟩) x.D.n x.D.n]), (1, [.map (some P.K.m)]), (1, [.int .i64 x.D.fuse]), (1, [.bool x.D.dead])] 74), (P.K.s, .cells [(x.D.n * 64, iv .u8 x.D.sure.flatten)] 115), (P.K.m, .obj (mapO .i64 (x.D.m.map sE) x.D.ck)), (P.j, .cells [(1, [.pointer (some ⟨P.K.d, 0, none⟩)]), (1, [.int .i64 (x.g.rs.length : Nat)]), (1, [.int .i64 (x.D.n : Nat)]), (1, [.slice (gA x.g.o) x.g.rs.length (gC x.g.o)])] 146), (P.M, .cells (modS P.R.r P.b x.o x.rs.length P.jm (tkP x.tk)) 91), (P.jm, .obj (mapO .i64 x.J x.jc)), (P.R.r, .cells [(1, [.int .i64 5]), (1, [.map (some P.R.m)]), (1, [.func (.func 56) #[] #[.pointer (some ⟨P.R.v, 0, none⟩), .pointer (some ⟨P.R.k, 0, none⟩)]])] 141), (P.R.m, .obj (mapO .i64 x.m x.ck)), (P.R.v, .cells [(1, [.pointer (some ⟨P.R.r, 0, none⟩)])] 75), (P.R.k, .cells [(32, iv .u8 rl)] 23)] ++ ((gLM 103 x.o x.rs.length (x.rs.flatMap rlV) 69) ++ ((x.rs.flatMap rbL) ++ (x.tk.map tkB ++ gRL 5 35 x.g))))) := pr
  refine (frm2 (Le := _) hp0 hd (ι := Unit) (A := fun _ => True) (V := fun _ => _) (M := fun _ => _) fun hp => (count23_calls P.b P.mb P.j x.S hx.s hlen a now hnow w hp).mono fun e w' h => ⟨(), trivial, h⟩).mono fun e w' ⟨_, _, h5, h6⟩ => ⟨h5, ?_⟩
  simp only [List.cons_append, List.nil_append, List.append_assoc] at h6 ⊢
  exact h6.cov cov

end Go.Proofs.YtmeckbjinmgbbaaGreat