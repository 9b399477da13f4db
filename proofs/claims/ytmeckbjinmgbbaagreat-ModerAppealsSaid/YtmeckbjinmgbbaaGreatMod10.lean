/- Who judges, whole: appeals. -/
import Derived.Test.YtmeckbjinmgbbaaGreatMod9
set_option linter.unusedVariables false
set_option linter.unusedSimpArgs false

namespace Go.Proofs.YtmeckbjinmgbbaaGreat
open Go.X
theorem perm_pull {β : Type} {b : β} {E A B G T T' : List β} (h : T.Perm (b :: T')) : (E ++ (A ++ (B ++ (T ++ G)))).Perm (b :: (E ++ (A ++ (B ++ (T' ++ G))))) := by
  refine ((((h.append_right G).append_left B).append_left A).append_left E).trans ?_
  have := List.perm_middle (a := b) (l₁ := E ++ (A ++ B)) (l₂ := T' ++ G)
  simpa [List.append_assoc] using this
theorem tk_pull {l : List Tok} {k : Nat} {y z : Tok} (h : l[k]? = some y) : ((l.set k z).map tkB).Perm (tkB z :: ((l.take k).map tkB ++ (l.drop (k + 1)).map tkB)) := by
  obtain ⟨hk, _⟩ := List.getElem?_eq_some_iff.1 h
  rw [List.set_eq_take_append_cons_drop, if_pos hk, List.map_append, List.map_cons]
  exact List.perm_middle
theorem tk_same {l : List Tok} {k : Nat} {y : Tok} (h : l[k]? = some y) : l.set k y = l := by
  obtain ⟨hk, he⟩ := List.getElem?_eq_some_iff.1 h
  rw [← he, List.set_getElem_self]
theorem tkP_set {l : List Tok} {k : Nat} {p : Nat} {u v : Int × Int} (h : l[k]? = some (p, u)) : tkP (l.set k (p, v)) = tkP l := by
  unfold tkP
  rw [List.map_set]
  obtain ⟨hk, he⟩ := List.getElem?_eq_some_iff.1 h
  have : (l.map (·.1))[k]? = some p := by rw [List.getElem?_map, h]; rfl
  obtain ⟨hk2, he2⟩ := List.getElem?_eq_some_iff.1 this
  show (l.map (·.1)).set k p = _
  rw [← he2, List.set_getElem_self]

/-- What an appeal does. -/
structure ApR (q : Ask) (a : Int) (z : Tok) (x r : MW) : Prop where
  d : r.D = goD x.D x.g.rs.length q
  g : r.g.OK ∧ r.g.ll = goL x.D x.g.ll q
  s : r.S = goS x.D x.g.rs.length x.S q
  q : qs r = qs x
  j : r.J = x.J
  tk : r.tk = x.tk.set a.toNat z
theorem ap_perm {rl : List Int} {P : MA} {x : MW} {a t n : Int} {p : Nat} (hk : x.tk[a.toNat]? = some (p, t, n)) : (mwL rl P x).Perm ((p, .cells (bkt 2 50 t n) 182) :: (P.K.d, .cells [(1, [.slice (some ⟨P.K.s, 0, none⟩) x.D.n x.D.n]), (1, [.map (some P.K.m)]), (1, [.int .i64 x.D.fuse]), (1, [.bool x.D.dead])] 74) :: (P.K.s, .cells [(x.D.n * 64, iv .u8 x.D.sure.flatten)] 115) :: (P.K.m, .obj (mapO .i64 (x.D.m.map sE) x.D.ck)) :: (P.j, .cells [(1, [.pointer (some ⟨P.K.d, 0, none⟩)]), (1, [.int .i64 (x.g.rs.length : Nat)]), (1, [.int .i64 (x.D.n : Nat)]), (1, [.slice (gA x.g.o) x.g.rs.length (gC x.g.o)])] 146) :: (P.b, .cells [(1, [.pointer (some ⟨P.j, 0, none⟩)]), (1, [.map (some P.mb)])] 110) :: (P.mb, .obj (mapO .i64 (x.S.m.map (gE stkV)) x.S.ck)) :: (P.M, .cells (modS P.R.r P.b x.o x.rs.length P.jm (tkP x.tk)) 91) :: (P.jm, .obj (mapO .i64 x.J x.jc)) :: (P.R.r, .cells [(1, [.int .i64 5]), (1, [.map (some P.R.m)]), (1, [.func (.func 56) #[] #[.pointer (some ⟨P.R.v, 0, none⟩), .pointer (some ⟨P.R.k, 0, none⟩)]])] 141) :: (P.R.m, .obj (mapO .i64 x.m x.ck)) :: (P.R.v, .cells [(1, [.pointer (some ⟨P.R.r, 0, none⟩)])] 75) :: (P.R.k, .cells [(32, iv .u8 rl)] 23) :: ((gLM 103 x.o x.rs.length (x.rs.flatMap rlV) 69) ++ ((x.rs.flatMap rbL) ++ ((x.tk.take a.toNat).map tkB ++ ((x.tk.drop (a.toNat + 1)).map tkB ++ gRL 5 35 x.g)))) : List (Nat × Blk)) := by
  unfold mwL
  simp only [hid0]
  have h := perm_pull (E := [(P.K.d, .cells [(1, [.slice (some ⟨P.K.s, 0, none⟩) x.D.n x.D.n]), (1, [.map (some P.K.m)]), (1, [.int .i64 x.D.fuse]), (1, [.bool x.D.dead])] 74), (P.K.s, .cells [(x.D.n * 64, iv .u8 x.D.sure.flatten)] 115), (P.K.m, .obj (mapO .i64 (x.D.m.map sE) x.D.ck)), (P.j, .cells [(1, [.pointer (some ⟨P.K.d, 0, none⟩)]), (1, [.int .i64 (x.g.rs.length : Nat)]), (1, [.int .i64 (x.D.n : Nat)]), (1, [.slice (gA x.g.o) x.g.rs.length (gC x.g.o)])] 146), (P.b, .cells [(1, [.pointer (some ⟨P.j, 0, none⟩)]), (1, [.map (some P.mb)])] 110), (P.mb, .obj (mapO .i64 (x.S.m.map (gE stkV)) x.S.ck)), (P.M, .cells (modS P.R.r P.b x.o x.rs.length P.jm (tkP x.tk)) 91), (P.jm, .obj (mapO .i64 x.J x.jc)), (P.R.r, .cells [(1, [.int .i64 5]), (1, [.map (some P.R.m)]), (1, [.func (.func 56) #[] #[.pointer (some ⟨P.R.v, 0, none⟩), .pointer (some ⟨P.R.k, 0, none⟩)]])] 141), (P.R.m, .obj (mapO .i64 x.m x.ck)), (P.R.v, .cells [(1, [.pointer (some ⟨P.R.r, 0, none⟩)])] 75), (P.R.k, .cells [(32, iv .u8 rl)] 23)]) (A := (gLM 103 x.o x.rs.length (x.rs.flatMap rlV) 69)) (B := (x.rs.flatMap rbL)) (G := gRL 5 35 x.g) (tk_pull (z := (p, t, n)) hk)
  rw [tk_same hk] at h
  simp only [List.cons_append, List.nil_append, List.append_assoc] at h
  exact h

theorem appeal_w (rl : List Int) (P : MA) (x : MW) (hx : MOK rl x) (a id now : Int) (ha : 0 ≤ a ∧ a < 8) (p : Nat) (t n : Int) (hk : x.tk[a.toNat]? = some (p, t, n)) (w : World) (hp0 : HP w w ((mwL rl P x).map (·.1)) (mwL rl P x))
    (hq : DOK (goD x.D x.g.rs.length (apQ x.S t n a id now)) ∧ LOK (goS x.D x.g.rs.length x.S (apQ x.S t n a id now)) ∧ (∀ r : GR, r.OK ∧ r.ll = goL x.D x.g.ll (apQ x.S t n a id now) → r.rs.length ≤ x.D.n) ∧ OkB 2 50 (apX x.S t n a id now).1 (apX x.S t n a id now).2) :
    Calls Tryz.prog 12 [.pointer (some ⟨P.M, 0, none⟩), .int .i64 a, .int .i64 id, .int .i64 now].toArray w fun e w' => ∃ r : MW, (MOK rl r ∧ ApR (apQ x.S t n a id now) a (p, (apX x.S t n a id now).1, (apX x.S t n a id now).2) x r) ∧ e = .returned (.int .i64 (goE x.D x.g.rs.length (apQ x.S t n a id now))) ∧ HP w w' ((mwL rl P x).map (·.1)) (mwL rl P r) := by
  have hp1 := hp0.perm (ap_perm (rl := rl) (P := P) hk).symm
  have hd : (((p, .cells (bkt 2 50 t n) 182) :: (P.K.d, .cells [(1, [.slice (some ⟨P.K.s, 0, none⟩) x.D.n x.D.n]), (1, [.map (some P.K.m)]), (1, [.int .i64 x.D.fuse]), (1, [.bool x.D.dead])] 74) :: (P.K.s, .cells [(x.D.n * 64, iv .u8 x.D.sure.flatten)] 115) :: (P.K.m, .obj (mapO .i64 (x.D.m.map sE) x.D.ck)) :: (P.j, .cells [(1, [.pointer (some ⟨P.K.d, 0, none⟩)]), (1, [.int .i64 (x.g.rs.length : Nat)]), (1, [.int .i64 (x.D.n : Nat)]), (1, [.slice (gA x.g.o) x.g.rs.length (gC x.g.o)])] 146) :: (P.b, .cells [(1, [.pointer (some ⟨P.j, 0, none⟩)]), (1, [.map (some P.mb)])] 110) :: (P.mb, .obj (mapO .i64 (x.S.m.map (gE stkV)) x.S.ck)) :: (P.M, .cells (modS P.R.r P.b x.o x.rs.length P.jm (tkP x.tk)) 91) :: (P.jm, .obj (mapO .i64 x.J x.jc)) :: (P.R.r, .cells [(1, [.int .i64 5]), (1, [.map (some P.R.m)]), (1, [.func (.func 56) #[] #[.pointer (some ⟨P.R.v, 0, none⟩), .pointer (some ⟨P.R.k, 0, none⟩)]])] 141) :: (P.R.m, .obj (mapO .i64 x.m x.ck)) :: (P.R.v, .cells [(1, [.pointer (some ⟨P.R.r, 0, none⟩)])] 75) :: (P.R.k, .cells [(32, iv .u8 rl)] 23) :: ((gLM 103 x.o x.rs.length (x.rs.flatMap rlV) 69) ++ ((x.rs.flatMap rbL) ++ ((x.tk.take a.toNat).map tkB ++ ((x.tk.drop (a.toNat + 1)).map tkB ++ gRL 5 35 x.g)))) : List (Nat × Blk))).Perm (((P.K.d, .cells [(1, [.slice (some ⟨P.K.s, 0, none⟩) x.D.n x.D.n]), (1, [.map (some P.K.m)]), (1, [.int .i64 x.D.fuse]), (1, [.bool x.D.dead])] 74) :: (P.K.s, .cells [(x.D.n * 64, iv .u8 x.D.sure.flatten)] 115) :: (P.K.m, .obj (mapO .i64 (x.D.m.map sE) x.D.ck)) :: (P.j, .cells [(1, [.pointer (some ⟨P.K.d, 0, none⟩)]), (1, [.int .i64 (x.g.rs.length : Nat)]), (1, [.int .i64 (x.D.n : Nat)]), (1, [.slice (gA x.g.o) x.g.rs.length (gC x.g.o)])] 146) :: (P.b, .cells [(1, [.pointer (some ⟨P.j, 0, none⟩)]), (1, [.map (some P.mb)])] 110) :: (P.mb, .obj (mapO .i64 (x.S.m.map (gE stkV)) x.S.ck)) :: (P.M, .cells (modS P.R.r P.b x.o x.rs.length P.jm (tkP x.tk)) 91) :: (p, .cells (bkt 2 50 t n) 182) :: gRL 5 35 x.g) ++ ([(P.jm, .obj (mapO .i64 x.J x.jc)), (P.R.r, .cells [(1, [.int .i64 5]), (1, [.map (some P.R.m)]), (1, [.func (.func 56) #[] #[.pointer (some ⟨P.R.v, 0, none⟩), .pointer (some ⟨P.R.k, 0, none⟩)]])] 141), (P.R.m, .obj (mapO .i64 x.m x.ck)), (P.R.v, .cells [(1, [.pointer (some ⟨P.R.r, 0, none⟩)])] 75), (P.R.k, .cells [(32, iv .u8 rl)] 23)] ++ ((gLM 103 x.o x.rs.length (x.rs.flatMap rlV) 69) ++ ((x.rs.flatMap rbL) ++ ((x.tk.take a.toNat).map tkB ++ ((x.tk.drop (a.toNat + 1)).map tkB ++ [])))))) := pr
  refine (frm2 hp1 hd fun hp => appeal24_calls P.K x.D hx.d P.j x.g hx.g hx.gn P.b P.mb x.S hx.s P.M P.jm P.R.r x.rs.length x.o x.tk a id now ha p t n hk (hx.tk _ (List.mem_of_getElem? hk)) w hp).mono fun e w' ⟨g2, h1, h5, h6⟩ => ?_
  refine ⟨{ x with D := goD x.D x.g.rs.length (apQ x.S t n a id now), g := g2, S := goS x.D x.g.rs.length x.S (apQ x.S t n a id now), tk := x.tk.set a.toNat (p, apX x.S t n a id now) }, ⟨⟨hq.1, h1.1, ?_, hq.2.1, hx.o, hx.rs, hx.j, by rw [List.length_set]; exact hx.t8, fun y hy => ?_, hx.m⟩, rfl, h1, rfl, rfl, rfl, rfl⟩, h5, ?_⟩
  · show g2.rs.length ≤ _
    rw [goD_n]; exact hq.2.2.1 g2 h1
  · rcases List.mem_or_eq_of_mem_set hy with h | h
    · exact hx.tk y h
    · rw [h]; exact hq.2.2.2
  · have hk2 : (x.tk.set a.toNat (p, apX x.S t n a id now))[a.toNat]? = some (p, (apX x.S t n a id now).1, (apX x.S t n a id now).2) := by
      obtain ⟨hlt, _⟩ := List.getElem?_eq_some_iff.1 hk
      rw [List.getElem?_set_self hlt]
    refine HP.perm ?_ (ap_perm hk2)
    dsimp only
    rw [tkP_set hk, List.take_set_of_le (Nat.le_refl _), List.drop_set_of_lt (Nat.lt_succ_self _)]
    simp only [List.cons_append, List.nil_append, List.append_assoc] at h6 ⊢
    exact h6.cov cov

end Go.Proofs.YtmeckbjinmgbbaaGreat