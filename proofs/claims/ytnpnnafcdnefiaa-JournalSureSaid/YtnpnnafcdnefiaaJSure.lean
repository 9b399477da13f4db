/- JournalSure: its walk. -/
import Derived.Test.YtnpnnafcdnefiaaSureP
import Derived.Test.YtnpnnafcdnefiaaXC
import Derived.Test.YtnpnnafcdnefiaaXB
set_option linter.unusedVariables false
set_option linter.unusedSimpArgs false

namespace Go.Proofs.Ytnpnnafcdnefiaa
open Go.X
theorem wfk22 {n : Int} (h : (Lit.int .u64 n).wf = true) : 0 ≤ n ∧ n ≤ 18446744073709551615 := by
  simp [Lit.wf, IntKind.min, IntKind.max, IntKind.signed, IntKind.bits] at h
  omega
theorem wfb22 {l : List Int} (h : ∀ c ∈ l, (Lit.int .u8 c).wf = true) : bytes l := fun c hc => wf_u8 (h c hc)
theorem rowsL_of22 {w : World} : ∀ (vs : List Value), (∀ (i : Nat) v, vs[i]? = some v → okD w (.sl (.int .u8)) [v]) → ∃ ll, RowsL w vs ll ∧ ∀ l ∈ ll, bytes l
  | [], _ => ⟨[], trivial, by simp⟩
  | v :: vs, h => by
    obtain ⟨ll, h1, h2⟩ := rowsL_of22 vs (fun i u hu => h (i + 1) u (by simpa using hu))
    have h0 := h 0 v rfl
    obtain ⟨A, n, cap, e, _⟩ := id h0
    simp only [List.cons.injEq, and_true] at e
    subst e
    obtain ⟨k1, k2, l, k3, k4⟩ := okD_ints h0
    have hb := wfb22 k4
    exact ⟨l :: ll, ⟨⟨A, n, cap, rfl, k1, k3, hb⟩, h1⟩, fun x hx => by
      rcases List.mem_cons.1 hx with rfl | hx
      · exact hb
      · exact h2 x hx⟩
theorem okD_rows22 {w : World} {A : Option Addr} {n cap : Nat} (h : okD w (.sl (.sl (.int .u8))) [.slice A n cap]) : ∃ ll, Rows w A n ll ∧ ∀ l ∈ ll, bytes l := by
  obtain ⟨h1, h2, vs, h3, h4⟩ := okD_cells rfl (fun e he v hv => by
    obtain ⟨A, n, c, rfl, _⟩ := he
    simp only [List.mem_singleton] at hv
    subst hv; rfl) h
  obtain ⟨ll, h5, h6⟩ := rowsL_of22 vs h4
  unfold maxLen at h2
  exact ⟨ll, ⟨by omega, vs, h3, h5⟩, h6⟩
theorem RowsL.app {w : World} : ∀ {vs us : List Value} {ll mm : List (List Int)}, RowsL w vs ll → RowsL w us mm → RowsL w (vs ++ us) (ll ++ mm)
  | [], _, [], _, _, h => h
  | _ :: _, _, _ :: _, _, h, k => ⟨h.1, h.2.app k⟩
  | [], _, _ :: _, _, h, _ => h.elim
  | _ :: _, _, [], _, h, _ => h.elim
/-- Rows of the walk's own, and behind them some that were there. -/
def suL (s : GR) (o : Gr) (vo : List Value) : List (Nat × Blk) := gL o (s.rs.length + vo.length) (s.rs.map RowB.v ++ vo) 31 ++ s.rs.map (RowB.blk 5)
theorem suL_nil {s : GR} : suL s s.o [] = gRL 5 31 s := by simp [suL, gRL]
theorem row_one {w : World} {v : Value} {l : List Int} (h : RowOf w v l) : Go.X.one v = true := by obtain ⟨B, n, c, rfl, _⟩ := h; rfl
theorem rowsL_one {w : World} : ∀ {vs : List Value} {ll : List (List Int)}, RowsL w vs ll → ∀ v ∈ vs, Go.X.one v = true
  | [], [], _, x, hx => by cases hx
  | [], _ :: _, h, _, _ => h.elim
  | _ :: _, [], h, _, _ => h.elim
  | v :: vs, l :: ll, h, x, hx => by
    rcases List.mem_cons.1 hx with rfl | hx
    · exact row_one h.1
    · exact rowsL_one h.2 x hx
theorem su_two {w0 w : World} {L L' : List (Nat × Blk)} {s : GR} {o : Gr} {vo : List Value} {lo : List (List Int)} (hp : HP w0 w [] L) (hs : s.OK) (ho : GrOK o (s.rs.length + vo.length)) (hr : RowsL w0 vo lo) (hd : DelL (suL s o vo) L L' := by exact dell) :
    SrW w 1 (gA o) (s.rs.length + vo.length) (s.rs.map RowB.v ++ vo) ∧ RowsL w (s.rs.map RowB.v ++ vo) (s.ll ++ lo) := by
  have h1 : HP w0 w [] (gL o (s.rs.length + vo.length) (s.rs.map RowB.v ++ vo) 31 ++ (s.rs.map (RowB.blk 5) ++ L')) := by
    have := hp.perm hd.perm.symm; unfold suL at this; rwa [List.append_assoc] at this
  have h2 := hr.step (hp.sub (List.nil_sublist _))
  refine ⟨HP.sgr h1 (.here _) (by simp) ho (fun v hv => ?_), (GR.rowsL h1 s.rs hs.2 fun r hr => List.mem_append_right _ (List.mem_append_left _ (List.mem_map.2 ⟨r, hr, rfl⟩))).app h2⟩
  rcases List.mem_append.1 hv with hv | hv
  · obtain ⟨r, _, rfl⟩ := List.mem_map.1 hv; rfl
  · exact rowsL_one hr v hv
theorem su_rows {w0 w : World} {L L' : List (Nat × Blk)} {s : GR} {o : Gr} {vo : List Value} {lo : List (List Int)} (hp : HP w0 w [] L) (hs : s.OK) (ho : GrOK o (s.rs.length + vo.length)) (hr : RowsL w0 vo lo) (hn : s.rs.length + vo.length ≤ 9223372036854775807) (hd : DelL (suL s o vo) L L' := by exact dell) : Rows w (gA o) (s.rs.length + vo.length) (s.ll ++ lo) :=
  ⟨hn, _, (su_two hp hs ho hr hd).1, (su_two hp hs ho hr hd).2⟩
/-- The one under way. -/
abbrev Un := Option (Nat × Value × List Int)
def unA : Un → Option Addr
  | none => none
  | some (b, _, _) => some ⟨b, 0, none⟩
def unV : Un → List Value
  | none => []
  | some (_, v, _) => [v]
def unX : Un → List (List Int)
  | none => []
  | some (_, _, l) => [l]
def unL : Un → List (Nat × Blk)
  | none => []
  | some (b, v, _) => [(b, .cells [(1, [v]), (1 - 1, [])] 31)]
def unU (u : Un) : Option (List Int) := u.map (·.2.2)
theorem un_two {w0 w : World} {L L' : List (Nat × Blk)} {u : Un} (hp : HP w0 w [] L) (hr : RowsL w0 (unV u) (unX u)) (hd : DelL (unL u) L L' := by exact dell) : SrW w 1 (unA u) (unV u).length (unV u) ∧ RowsL w (unV u) (unX u) := by
  refine ⟨?_, hr.step (hp.sub (List.nil_sublist _))⟩
  cases u with
  | none => exact SrW.nil
  | some q =>
    have h1 := hp.perm hd.perm.symm
    exact HP.sown (b := q.1) h1 (List.mem_append_left _ List.mem_cons_self) (rowsL_one hr)
section
variable {c : Cx} {Q : Post} {S : Slots} {L L' Lr : List (Nat × Blk)} {ops : Array Oper} {d : Option Tmp} {t : Tmp} {ty T : TypeId} {pos : String} {af : Array Edge} {rest : List Oper} {x y : Operand}
theorem vldV {b o q n i : Nat} {v : Value} {vs : List Value} (hs : SrW c.w0 1 (some ⟨b, o, none⟩) n vs) (hv : vs[i]? = some v) (hO : b ∉ c.O := by simp) (ht : scB c.P T = true := by kernel_rfl) (hx : ev S x = some (.pointer (some ⟨b, q, none⟩)) := by exact rfl) (hq : q = o + i := by omega) : Val c S L (.load T x) ty v :=
  V_loadSr (fun w hp => hs.step hp (by rintro b' o' e hb; injection e with e; injection e with e1; subst e1; exact hO hb)) rfl ht hx hq hv
theorem WQ.un {e : Exit} {B : Nat} {v : Value} {l : List Int} (h : WQ c Q e S (Lr ++ unL (some (B, v, l)))) (hD : DelE B (.cells [(1, [v]), (1 - 1, [])] 31) L Lr := by repeat (first | exact DelE.here rfl _ | apply DelE.there)) : WQ c Q e S L :=
  fun a w st => h a w ⟨st.sl, st.hp.perm ((List.perm_append_comm (l₁ := Lr) (l₂ := [(B, Blk.cells [(1, [v]), (1 - 1, [])] 31)])).trans hD.perm.symm)⟩
theorem oapSu {s : GR} {o : Gr} {vo : List Value} {v : Value} {A : Option Addr} {cap2 : Nat}
    (K : ∀ o', GrOK o' (s.rs.length + (vo ++ [v]).length) → WL c ops Q rest ((t, .slice (gA o') (s.rs.length + (vo ++ [v]).length) (gC o')) :: S) (Lr ++ suL s o' (vo ++ [v])))
    (hs : Sr c L 1 A 1 [v]) (ho : GrOK o (s.rs.length + vo.length)) (hb : s.rs.length + vo.length ≤ 1000000) (ht : slE c.P T 31 24 = true := by kernel_rfl) (hx : ev S x = some (.slice (gA o) (s.rs.length + vo.length) (gC o)) := by exact rfl) (hy : ev S y = some (.slice A 1 cap2) := by exact rfl) (hD : DelL (suL s o vo) L Lr := by exact dell) (hd : Nat.blt t c.n = true := by exact rfl) :
    WL c ops Q (⟨some t, .call ⟨.builtin .append, #[x, y], #[T, T]⟩, ty, pos, af, none⟩ :: rest) S L := by
  have hp1 : L.Perm (gL o (s.rs.length + vo.length) (s.rs.map RowB.v ++ vo) 31 ++ (s.rs.map (RowB.blk 5) ++ Lr)) := by
    have := hD.perm; unfold suL at this; rwa [List.append_assoc] at this
  refine WL.eff (d := some t) hd ((E_appG (Lr := s.rs.map (RowB.blk 5) ++ Lr) 31 24 ht hx hy (by simp) ho (.here _) (fun w hp => hs w (hp.perm hp1)) (by omega) (by omega)).perm hp1) fun u M ⟨o', h1, _, hv, hM⟩ => ?_
  subst hv; subst hM
  have e : s.rs.length + (vo ++ [v]).length = s.rs.length + vo.length + 1 := by simp; omega
  have k := K o' (by rw [e]; exact h1)
  rw [e] at k
  refine fun a w st => k a w ⟨st.sl, st.hp.perm ?_⟩
  unfold suL
  rw [e, List.append_assoc (s.rs.map RowB.v) vo [v]]
  generalize gL o' _ _ _ = G
  generalize s.rs.map (RowB.blk 5) = B
  rw [← List.append_assoc, List.append_assoc B]
  exact List.perm_append_comm
end
theorem Rn.yes {D : DS} {ll : List (List Int)} {u : Option (List Int)} {b : List Int} (h : Rn D ll u) (hb : b.length ≤ 59 ∧ bytes b) (hl : ll.length < 64) (he : apE D ll.length b = 0) : u = none ∧ Rn (apD D ll.length b) (ll ++ [b]) none := by
  rcases h.ap hb hl with h | h
  · exact h.2
  · rw [he] at h; cases h.1
theorem Rn.no {D : DS} {ll : List (List Int)} {u : Option (List Int)} {b : List Int} (h : Rn D ll u) (hb : b.length ≤ 59 ∧ bytes b) (hl : ll.length < 64) (he : ¬ apE D ll.length b = 0) : apE D ll.length b = 13 ∧ Rn (apD D ll.length b) ll (some (u.getD b)) := by
  rcases h.ap hb hl with h | h
  · exact absurd h.1 he
  · exact h
theorem Rn.bk {D : DS} {ll : List (List Int)} {u : Option (List Int)} (h : Rn D ll u) (kept : Int) : Bk (crD D kept) (opL (crD D kept)) ∧ (opL (crD D kept) = ll ∨ ∃ b, u = some b ∧ opL (crD D kept) = ll ++ [b]) := by
  rcases h.crash kept with k | ⟨b, hb, k⟩
  · rw [k.op]; exact ⟨k, .inl rfl⟩
  · rw [k.op]; exact ⟨k, .inr ⟨b, hb, rfl⟩⟩
/-- A round's state. -/
structure JS (w0 : World) (D : DS) (g s : GR) (o : Gr) (vo : List Value) (lo : List (List Int)) (u : Un) (m : Nat) : Prop where
  rn : Rn D g.ll (unU u)
  gok : g.OK
  sok : s.OK
  ll : s.ll ++ lo = g.ll
  o : GrOK o (s.rs.length + vo.length)
  old : RowsL w0 vo lo
  un : RowsL w0 (unV u) (unX u)
  len : g.rs.length ≤ m
theorem JS.vlen {w0 : World} {D : DS} {g s : GR} {o : Gr} {vo : List Value} {lo : List (List Int)} {u : Un} {m : Nat} (h : JS w0 D g s o vo lo u m) : s.rs.length + vo.length = g.rs.length := by
  rw [← GR.ll_len, ← GR.ll_len, h.old.len, ← h.ll, List.length_append]
theorem JS.gn {w0 : World} {D : DS} {g s : GR} {o : Gr} {vo : List Value} {lo : List (List Int)} {u : Un} {m : Nat} (h : JS w0 D g s o vo lo u m) : g.rs.length ≤ D.n := by
  rw [← GR.ll_len]; exact h.rn.base.held.len
theorem JS.yes {w0 : World} {D : DS} {g s r : GR} {o o' : Gr} {vo : List Value} {lo : List (List Int)} {u : Un} {m : Nat} {b : List Int} {v : Value} (h : JS w0 D g s o vo lo u m) (hm : m < 64) (hb : b.length ≤ 59 ∧ bytes b) (he : apE D g.rs.length b = 0) (hr : r.OK ∧ r.ll = apL D g.ll b) (hv : RowOf w0 v b) (ho : GrOK o' (s.rs.length + (vo ++ [v]).length)) :
    JS w0 (apD D g.rs.length b) r s o' (vo ++ [v]) (lo ++ [b]) u (m + 1) := by
  have hl := h.len
  have e : r.ll = g.ll ++ [b] := by rw [hr.2]; unfold apL; rw [GR.ll_len, if_pos he]
  have k := h.rn.yes hb (by rw [GR.ll_len]; omega) (by rw [GR.ll_len]; exact he)
  rw [GR.ll_len] at k
  refine ⟨by rw [e, k.1]; exact k.2, hr.1, h.sok, by rw [e, ← h.ll, List.append_assoc], ho, h.old.app ⟨hv, trivial⟩, h.un, by rw [← GR.ll_len, e, List.length_append, GR.ll_len, List.length_singleton]; omega⟩
theorem JS.no {w0 : World} {D : DS} {g s r : GR} {o : Gr} {vo : List Value} {lo : List (List Int)} {u : Un} {m : Nat} {b : List Int} (h : JS w0 D g s o vo lo u m) (hm : m < 64) (hb : b.length ≤ 59 ∧ bytes b) (he : ¬ apE D g.rs.length b = 0) (hr : r.OK ∧ r.ll = apL D g.ll b) :
    apE D g.rs.length b = 13 ∧ (u ≠ none → JS w0 (apD D g.rs.length b) r s o vo lo u (m + 1)) ∧ (u = none → ∀ v B, RowOf w0 v b → JS w0 (apD D g.rs.length b) r s o vo lo (some (B, v, b)) (m + 1)) := by
  have hl := h.len
  have e : r.ll = g.ll := by rw [hr.2]; unfold apL; rw [GR.ll_len, if_neg he]
  have k := h.rn.no hb (by rw [GR.ll_len]; omega) (by rw [GR.ll_len]; exact he)
  rw [GR.ll_len] at k
  have hn : r.rs.length ≤ m + 1 := by rw [← GR.ll_len, e, GR.ll_len]; omega
  refine ⟨k.1, fun hu => ?_, fun hu v B hv => ?_⟩
  · obtain ⟨q, rfl⟩ := Option.ne_none_iff_exists'.1 hu
    exact ⟨by rw [e]; exact k.2, hr.1, h.sok, h.ll.trans e.symm, h.o, h.old, h.un, hn⟩
  · subst hu
    exact ⟨by rw [e]; exact k.2, hr.1, h.sok, h.ll.trans e.symm, h.o, h.old, ⟨hv, trivial⟩, hn⟩

theorem bk_new : Bk (newD 64) [] := ⟨newD_ok (by omega) (by omega), rfl, rfl, ⟨.nil, fun i h hi => (Full.new (n := 64)).rest i h hi⟩, rfl⟩
theorem JS.two {w0 : World} {D : DS} {g s : GR} {o : Gr} {vo : List Value} {lo : List (List Int)} {u : Un} {m : Nat} (h : JS w0 D g s o vo lo u m) (kept : Int) {x : List (List Int)} (hx : x = opL (crD D kept)) (hn : ¬ x = s.ll ++ lo) : x = s.ll ++ lo ++ unX u := by
  rcases (h.rn.bk kept).2 with e | ⟨b, hb, e⟩
  · exact absurd (by rw [hx, e, h.ll]) hn
  · rw [hx, e, h.ll]
    cases u with
    | none => cases hb
    | some q => injection hb with hb; subst hb; rfl
theorem JS.oplen {w0 : World} {D : DS} {g s : GR} {o : Gr} {vo : List Value} {lo : List (List Int)} {u : Un} {m : Nat} (h : JS w0 D g s o vo lo u m) (kept : Int) : (opL (crD D kept)).length ≤ m + 1 := by
  have hl := h.len
  rw [← GR.ll_len] at hl
  rcases (h.rn.bk kept).2 with e | ⟨b, hb, e⟩
  · rw [e]; omega
  · rw [e, List.length_append, List.length_singleton]; omega
theorem su_all {w0 w : World} {L L' : List (Nat × Blk)} {s : GR} {o : Gr} {vo : List Value} {lo : List (List Int)} {u : Un} {b N m : Nat} {rs : List Value} {T : TypeId} (hp : HP w0 w [] L) (hs : s.OK) (ho : GrOK o (s.rs.length + vo.length)) (hr : RowsL w0 vo lo) (hu : RowsL w0 (unV u) (unX u)) (hN : N ≤ 9223372036854775807)
    (hN2 : ([] ++ (s.rs.map RowB.v ++ vo) ++ unV u).length = N := by simp; omega) (hm : (b, Blk.cells [(N, [] ++ (s.rs.map RowB.v ++ vo) ++ unV u), (m, rs)] T) ∈ L := by repeat (first | exact List.Mem.head _ | apply List.Mem.tail)) (hd : DelL (suL s o vo) L L' := by exact dell) : Rows w (some ⟨b, 0, none⟩) N (s.ll ++ lo ++ unX u) := by
  have h2 := (su_two hp hs ho hr hd).2.app (hu.step (hp.sub (List.nil_sublist _)))
  refine ⟨hN, _, ?_, h2⟩
  have := HP.sown hp hm (by rw [List.nil_append]; exact rowsL_one h2)
  rwa [List.nil_append] at this

set_option maxHeartbeats 4000000 in
theorem journalSure_calls (A : Option Addr) (n cap : Nat) (ll : List (List Int)) (fuse : Int) (kl : List Int) (hk2 : kl.length = 2) (hkb : ∀ k ∈ kl, 0 ≤ k ∧ k ≤ 18446744073709551615) (hfb : -9223372036854775808 ≤ fuse ∧ fuse ≤ 9223372036854775807) (w : World) (hr : Rows w A n ll) :
    Calls Try.prog 11 [.slice A n cap, .int .i64 fuse, AG [(2, iv .u64 kl)]].toArray w fun e w' => e = .returned (.bool true) ∧ HP w w' [] [] := by
 obtain ⟨hlen, hn, vs, hvs, hrow⟩ := hr.open
 have k0 := newD_ok (n := 64) (by omega) (by omega)
 refine calls_of_W Try.func11 rfl Try.ntmps11 rfl rfl (HP.refl w []) ?_
 refine sr ?_
 refine obxa (fun b5 => ?_)
 refine oas ?_
 refine nx ?_
 refine cp rfl (fun w hp => awake22_calls w) ?_
 refine oas ?_
 refine nx ?_
 refine cg rfl (fun w hp => new21_calls 64 (by omega) (by omega) w) (fun b23 h23 => ?_)
 refine omv ?_
 refine ov vex ?_
 refine ov vex ?_
 refine oas ?_
 refine oas ?_
 refine nx ?_
 refine omv ?_
 refine cgP _ rfl (fun w hp => open22_calls b23 (newD 64) k0 w (HP.here hp cov)) (fun r29 h29 => ?_)
 simp only [List.cons_append, List.nil_append, List.append_nil, List.append_assoc]
 refine WL.back (gRL 5 31 r29.2) ?_
 simp only [List.cons_append, List.nil_append, List.append_nil, List.append_assoc]
 refine omv ?_
 refine ov vex ?_
 refine ov vex ?_
 refine oas ?_
 refine oas ?_
 refine nq ?_
 refine W.seq ?_
 refine W.seq ?_
 by_cases hl60 : 60 < n
 · by_cases hf0 : fuse < 0
   · refine W.region ?_
     refine omv ?_
     refine ov (V_eqlP (by kernel_rfl) rfl rfl) ?_
     refine omv ?_
     refine oy rfl rfl ?_
     refine omv ?_
     refine oy rfl rfl ?_
     refine ov (V_eqlP (by kernel_rfl) rfl rfl) ?_
     refine ov (V_pick_f rfl rfl rfl) ?_
     refine omv ?_
     refine oy rfl rfl ?_
     refine omv ?_
     refine oy rfl rfl ?_
     refine ov (v2 V_neq) ?_
     refine ov (V_pick_f rfl rfl rfl) ?_
     refine omv ?_
     refine oy rfl (by decide) ?_
     refine omv ?_
     refine oy rfl (by decide) ?_
     refine ov (v2 V_neq) ?_
     refine ov (V_pick_f rfl (by decide) rfl) ?_
     refine omv ?_
     refine oy rfl (by decide) ?_
     refine omv ?_
     refine oy rfl (by decide) ?_
     refine ov vlenS ?_
     refine oy rfl (by decide) ?_
     refine ov (v2 V_gtr) ?_
     refine ov (V_pick_f rfl (by decide) rfl) ?_
     refine omv ?_
     refine on rfl (decide_eq_true (by omega)) ?_
     refine on rfl (decide_eq_true (by omega)) ?_
     refine ov (V_pick_t rfl (decide_eq_true (by omega)) rfl) ?_
     refine nq ?_
     refine W.cond_true rfl rfl ?_
     refine sr ?_
     refine omv ?_
     refine omv ?_
     refine oy rfl rfl ?_
     refine omv ?_
     refine oy rfl rfl ?_
     refine ov (V_neqP (by kernel_rfl) rfl rfl) ?_
     refine ov (V_pick_t rfl rfl rfl) ?_
     refine omv ?_
     refine oy rfl rfl ?_
     refine omv ?_
     refine oy rfl rfl ?_
     refine ov (V_neqP (by kernel_rfl) rfl rfl) ?_
     refine ov (V_pick_t rfl rfl rfl) ?_
     refine oas ?_
     refine nq ?_
     refine W.ret ?_
     refine WQ.then_ret ?_
     refine WQ.ret1 Try.results11 (.tmp rfl) ?_
     intro w' hp; exact ⟨by first | rfl | (simp; done) | (simp [*]; done) | simp_all, hp.forget⟩
   · refine W.region ?_
     refine omv ?_
     refine ov (V_eqlP (by kernel_rfl) rfl rfl) ?_
     refine omv ?_
     refine oy rfl rfl ?_
     refine omv ?_
     refine oy rfl rfl ?_
     refine ov (V_eqlP (by kernel_rfl) rfl rfl) ?_
     refine ov (V_pick_f rfl rfl rfl) ?_
     refine omv ?_
     refine oy rfl rfl ?_
     refine omv ?_
     refine oy rfl rfl ?_
     refine ov (v2 V_neq) ?_
     refine ov (V_pick_f rfl rfl rfl) ?_
     refine omv ?_
     refine oy rfl (by decide) ?_
     refine omv ?_
     refine oy rfl (by decide) ?_
     refine ov (v2 V_neq) ?_
     refine ov (V_pick_f rfl (by decide) rfl) ?_
     refine omv ?_
     refine oy rfl (by decide) ?_
     refine omv ?_
     refine oy rfl (by decide) ?_
     refine ov vlenS ?_
     refine oy rfl (by decide) ?_
     refine ov (v2 V_gtr) ?_
     refine ov (V_pick_f rfl (by decide) rfl) ?_
     refine omv ?_
     refine on rfl (decide_eq_true (by omega)) ?_
     refine on rfl (decide_eq_true (by omega)) ?_
     refine ov (V_pick_t rfl (decide_eq_true (by omega)) rfl) ?_
     refine nq ?_
     refine W.cond_true rfl rfl ?_
     refine sr ?_
     refine omv ?_
     refine omv ?_
     refine oy rfl rfl ?_
     refine omv ?_
     refine oy rfl rfl ?_
     refine ov (V_neqP (by kernel_rfl) rfl rfl) ?_
     refine ov (V_pick_t rfl rfl rfl) ?_
     refine omv ?_
     refine oy rfl rfl ?_
     refine omv ?_
     refine oy rfl rfl ?_
     refine ov (V_neqP (by kernel_rfl) rfl rfl) ?_
     refine ov (V_pick_t rfl rfl rfl) ?_
     refine oas ?_
     refine nq ?_
     refine W.ret ?_
     refine WQ.then_ret ?_
     refine WQ.ret1 Try.results11 (.tmp rfl) ?_
     intro w' hp; exact ⟨by first | rfl | (simp; done) | (simp [*]; done) | simp_all, hp.forget⟩
 · by_cases hf0 : fuse < 0
   · refine W.region ?_
     refine omv ?_
     refine ov (V_eqlP (by kernel_rfl) rfl rfl) ?_
     refine omv ?_
     refine oy rfl rfl ?_
     refine omv ?_
     refine oy rfl rfl ?_
     refine ov (V_eqlP (by kernel_rfl) rfl rfl) ?_
     refine ov (V_pick_f rfl rfl rfl) ?_
     refine omv ?_
     refine oy rfl rfl ?_
     refine omv ?_
     refine oy rfl rfl ?_
     refine ov (v2 V_neq) ?_
     refine ov (V_pick_f rfl rfl rfl) ?_
     refine omv ?_
     refine oy rfl (by decide) ?_
     refine omv ?_
     refine oy rfl (by decide) ?_
     refine ov (v2 V_neq) ?_
     refine ov (V_pick_f rfl (by decide) rfl) ?_
     refine omv ?_
     refine oy rfl (by decide) ?_
     refine omv ?_
     refine oy rfl (by decide) ?_
     refine ov vlenS ?_
     refine oy rfl (by decide) ?_
     refine ov (v2 V_gtr) ?_
     refine ov (V_pick_f rfl (by decide) rfl) ?_
     refine omv ?_
     refine oy rfl (decide_eq_false (by omega)) ?_
     refine omv ?_
     refine oy rfl (decide_eq_false (by omega)) ?_
     refine ov (v2 V_lss) ?_
     refine ov (V_pick_f rfl (decide_eq_false (by omega)) rfl) ?_
     refine nq ?_
     refine W.cond_true rfl (decide_eq_true hf0) ?_
     refine sr ?_
     refine omv ?_
     refine omv ?_
     refine oy rfl rfl ?_
     refine omv ?_
     refine oy rfl rfl ?_
     refine ov (V_neqP (by kernel_rfl) rfl rfl) ?_
     refine ov (V_pick_t rfl rfl rfl) ?_
     refine omv ?_
     refine oy rfl rfl ?_
     refine omv ?_
     refine oy rfl rfl ?_
     refine ov (V_neqP (by kernel_rfl) rfl rfl) ?_
     refine ov (V_pick_t rfl rfl rfl) ?_
     refine oas ?_
     refine nq ?_
     refine W.ret ?_
     refine WQ.then_ret ?_
     refine WQ.ret1 Try.results11 (.tmp rfl) ?_
     intro w' hp; exact ⟨by first | rfl | (simp; done) | (simp [*]; done) | simp_all, hp.forget⟩
   · refine W.region ?_
     refine omv ?_
     refine ov (V_eqlP (by kernel_rfl) rfl rfl) ?_
     refine omv ?_
     refine oy rfl rfl ?_
     refine omv ?_
     refine oy rfl rfl ?_
     refine ov (V_eqlP (by kernel_rfl) rfl rfl) ?_
     refine ov (V_pick_f rfl rfl rfl) ?_
     refine omv ?_
     refine oy rfl rfl ?_
     refine omv ?_
     refine oy rfl rfl ?_
     refine ov (v2 V_neq) ?_
     refine ov (V_pick_f rfl rfl rfl) ?_
     refine omv ?_
     refine oy rfl (by decide) ?_
     refine omv ?_
     refine oy rfl (by decide) ?_
     refine ov (v2 V_neq) ?_
     refine ov (V_pick_f rfl (by decide) rfl) ?_
     refine omv ?_
     refine oy rfl (by decide) ?_
     refine omv ?_
     refine oy rfl (by decide) ?_
     refine ov vlenS ?_
     refine oy rfl (by decide) ?_
     refine ov (v2 V_gtr) ?_
     refine ov (V_pick_f rfl (by decide) rfl) ?_
     refine omv ?_
     refine oy rfl (decide_eq_false (by omega)) ?_
     refine omv ?_
     refine oy rfl (decide_eq_false (by omega)) ?_
     refine ov (v2 V_lss) ?_
     refine ov (V_pick_f rfl (decide_eq_false (by omega)) rfl) ?_
     refine nq ?_
     refine W.cond_false rfl (decide_eq_false hf0) ?_
     refine W.skip ?_
     refine WQ.then ?_
     refine sr ?_
     refine oas ?_
     refine nq ?_
     refine W.seq ?_
     refine sr ?_
     refine oas ?_
     refine nq ?_
     refine W.block ?_
     -- LOOP 0
     refine W.pick (S' := [(10, _), (12, _), (13, _), (0, _), (1, _), (2, _), (5, _), (6, _), (7, _), (8, _), (9, _), (11, _), (54, _)]) [10, 12, 13, 0, 1, 2, 5, 6, 7, 8, 9, 11, 54] rfl ?_
     refine W.loopG (σ := Nat × DS × Nat × GR × GR) (fun ⟨ro, D, j, ga, s⟩ => ro ≤ 2 ∧ Bk D ga.ll ∧ ga.OK ∧ s.OK ∧ s.ll = ga.ll ∧ ga.rs.length ≤ 26 * ro) (fun ⟨ro, D, j, ga, s⟩ => [(10, .pointer (some ⟨j, 0, none⟩)), (12, .slice (gA s.o) s.rs.length (gC s.o)), (13, .int .i64 (ro : Nat))]) (fun ⟨ro, D, j, ga, s⟩ => [(b23.d, .cells [(1, [.slice (some ⟨b23.s, 0, none⟩) D.n D.n]), (1, [.map (some b23.m)]), (1, [.int .i64 D.fuse]), (1, [.bool D.dead])] 101), (b23.s, .cells [(D.n * 64, iv .u8 D.sure.flatten)] 58), (b23.m, .obj (mapO .i64 (D.m.map sE) D.ck)), (j, .cells [(1, [.pointer (some ⟨b23.d, 0, none⟩)]), (1, [.int .i64 (ga.rs.length : Nat)]), (1, [.int .i64 (D.n : Nat)]), (1, [.slice (gA ga.o) ga.rs.length (gC ga.o)])] 103), (b5, .cells [(2, iv .u64 kl)] 78)]) [] (fun ⟨ro, D, j, ga, s⟩ => gRL 5 31 ga ++ gRL 5 31 s) (fun ⟨ro, D, j, ga, s⟩ => 2 - ro) (0, newD 64, r29.1, r29.2, GR.nil) rfl cov ⟨Nat.zero_le _, by rw [h29.2, bk_new.op]; exact bk_new, h29.1, GR.nil_ok, by rw [h29.2, bk_new.op]; rfl, by rw [← GR.ll_len, h29.2, bk_new.op]; exact Nat.le_refl _⟩ ?_
     rintro ⟨ro, D, j, ga, s⟩ ⟨hro, hB, hga, hs, hsl, hgl⟩; dsimp only at hro hB hga hs hsl hgl ⊢
     simp only [List.cons_append, List.nil_append]
     have hI := hB
     refine W.seq ?_
     refine sr ?_
     refine omv ?_
     refine ov (v2 V_lss) ?_
     refine nq ?_
     refine W.cond_dec rfl (fun g1 => ?_) (fun g1 => ?_)
     · refine W.skip ?_
       refine WQ.then ?_
       refine W.seq ?_
       refine W.block ?_
       refine sr ?_
       refine omv ?_
       refine omv ?_
       refine cms rfl (fun w hp => fuse21_calls b23 D hI.ok fuse hfb w (HP.here hp cov)) ?_
       refine nx ?_
       refine oas ?_
       refine nq ?_
       refine W.seq ?_
       refine W.seq ?_
       rw [show gRL 5 31 s = suL s s.o [] ++ unL none from by simp [suL, gRL, unL]]
       refine W.region ?_
       refine oas ?_
       refine nq ?_
       refine W.block ?_
       -- LOOP 1
       refine W.pick (S' := [(12, _), (14, _), (15, _), (0, _), (1, _), (2, _), (5, _), (6, _), (7, _), (8, _), (9, _), (10, _), (11, _), (13, _), (54, _), (65, _)]) [12, 14, 15, 0, 1, 2, 5, 6, 7, 8, 9, 10, 11, 13, 54, 65] rfl ?_
       refine W.loopG (σ := Nat × DS × GR × Gr × List Value × List (List Int) × Un) (fun ⟨i, E, ga2, o, vo, lo, u⟩ => i ≤ 25 ∧ i ≤ n ∧ JS w E ga2 s o vo lo u (26 * ro + i)) (fun ⟨i, E, ga2, o, vo, lo, u⟩ => [(12, .slice (gA o) (s.rs.length + vo.length) (gC o)), (14, .slice (unA u) (unV u).length (unV u).length), (15, .int .i64 (i : Nat))]) (fun ⟨i, E, ga2, o, vo, lo, u⟩ => [(b23.d, .cells [(1, [.slice (some ⟨b23.s, 0, none⟩) E.n E.n]), (1, [.map (some b23.m)]), (1, [.int .i64 E.fuse]), (1, [.bool E.dead])] 101), (b23.s, .cells [(E.n * 64, iv .u8 E.sure.flatten)] 58), (b23.m, .obj (mapO .i64 (E.m.map sE) E.ck)), (j, .cells [(1, [.pointer (some ⟨b23.d, 0, none⟩)]), (1, [.int .i64 (ga2.rs.length : Nat)]), (1, [.int .i64 (E.n : Nat)]), (1, [.slice (gA ga2.o) ga2.rs.length (gC ga2.o)])] 103), (b5, .cells [(2, iv .u64 kl)] 78)]) [] (fun ⟨i, E, ga2, o, vo, lo, u⟩ => gRL 5 31 ga2 ++ (suL s o vo ++ unL u)) (fun ⟨i, E, ga2, o, vo, lo, u⟩ => 25 - i) (0, fuD D fuse, ga, s.o, [], [], none) rfl cov ⟨Nat.zero_le _, Nat.zero_le _, Rn.start hB.ok hB.n hB.m hB.full hB.dead ⟨by omega, hfb.2⟩, hga, hs, by rw [List.append_nil]; exact hsl, hs.1, trivial, trivial, by omega⟩ ?_
       rintro ⟨i, E, ga2, o, vo, lo, u⟩ ⟨hi25, hin0, hI⟩; dsimp only at hi25 hin0 hI ⊢
       simp only [List.cons_append, List.nil_append]
       have hvl := hI.vlen
       have hgm := hI.len
       refine W.seq ?_
       refine sr ?_
       refine omv ?_
       refine omv ?_
       refine ov vlenS ?_
       refine ov (v2 V_lss) ?_
       refine omv ?_
       refine WL.splitD rfl (fun g2 => ?_) (fun g2 => ?_)
       · refine oy rfl (decide_eq_true g2) ?_
         refine omv ?_
         refine oy rfl (decide_eq_true g2) ?_
         refine ov (v2 V_lss) ?_
         refine ov (V_pick_td rfl g2 rfl) ?_
         refine nq ?_
         refine W.cond_dec rfl (fun g3 => ?_) (fun g3 => ?_)
         · refine W.skip ?_
           refine WQ.then ?_
           refine W.seq ?_
           refine W.block ?_
           refine W.seq ?_
           refine W.seq ?_
           have hin : i < n := by omega
           obtain ⟨bA, oA, rfl⟩ := hvs.hasN (by omega)
           obtain ⟨b, hbi⟩ := exrow hlen (i := i) (by omega)
           obtain ⟨v, hv, B, q, bc, rfl, hbc, hsb, hbb⟩ := hrow i b hbi
           have hql := SrW.ilen hsb
           have hrw : RowOf w (.slice B q bc) b := ⟨B, q, bc, rfl, hbc, hsb, hbb⟩
           by_cases h59 : b.length ≤ 59
           · refine W.region ?_
             refine omv ?_
             refine omv ?_
             refine ov (viO 1) ?_
             refine ov (vldV (i := i) hvs hv) ?_
             refine ov vlenS ?_
             refine ov (v2 V_gtr) ?_
             refine nq ?_
             refine W.cond_false rfl (decide_eq_false (by omega)) ?_
             refine W.skip ?_
             refine WQ.then ?_
             refine sr ?_
             refine omv ?_
             refine omv ?_
             refine omv ?_
             refine ov (viO 1) ?_
             refine ov (vldV (i := i) hvs hv) ?_
             refine cgP _ rfl (fun w hp => append22_calls b23 E hI.rn.ok j ga2 hI.gok hI.gn B q bc b hbb hbc hql w (HP.here hp cov) (fun w1 M h1 => Sr.pastP hp h1 (hs := by exact hsb.old0))) (fun r93 h93 => ?_)
             simp only [List.cons_append, List.nil_append, List.append_nil, List.append_assoc]
             refine WL.back (gRL 5 31 r93) ?_
             simp only [List.cons_append, List.nil_append, List.append_nil, List.append_assoc]
             refine oas ?_
             refine nq ?_
             refine W.seq ?_
             refine W.seq ?_
             by_cases hE : apE E ga2.rs.length b = 0
             · rw [hE]
               refine W.region ?_
               refine omv ?_
               refine ov (v2 V_eql) ?_
               refine nq ?_
               refine W.cond_true rfl rfl ?_
               refine sr ?_
               refine omv ?_
               refine omv ?_
               refine omv ?_
               refine ov (viO 1) ?_
               refine ov (vldV (i := i) hvs hv) ?_
               refine obs 31 24 (fun b101 => ?_)
               refine oapSu (fun o102 h102 => ?_) (fun w hp => sw) hI.o (by omega)
               refine oas ?_
               refine nq ?_
               refine W.exit ?_
               refine WQ.then_exit ?_
               refine WQ.block_hit ?_
               refine WQ.then ?_
               refine W.region ?_
               refine omv ?_
               first | refine ov vaddN ?_ | refine ov vadd ?_
               refine oas ?_
               refine WL.nil ?_
               exact ag (i + 1, apD E ga2.rs.length b, r93, o102, vo ++ [.slice B q bc], lo ++ [b], u) [12, 14, 15, 0, 1, 2, 5, 6, 7, 8, 9, 10, 11, 13, 54, 65] (by (try dsimp only); exact ⟨by omega, by omega, hI.yes (by omega) ⟨h59, hbb⟩ hE h93 hrw h102⟩) (by (try dsimp only); omega) rfl cov
             · obtain ⟨hE13, hno1, hno2⟩ := hI.no (by omega) ⟨h59, hbb⟩ hE h93
               rw [hE13]
               refine W.region ?_
               refine omv ?_
               refine ov (v2 V_eql) ?_
               refine nq ?_
               refine W.cond_false rfl (by decide) ?_
               refine W.skip ?_
               refine WQ.then ?_
               refine W.seq ?_
               refine sr ?_
               refine omv ?_
               refine ov (v2 V_neq) ?_
               refine nq ?_
               refine W.cond_false rfl (by decide) ?_
               refine W.skip ?_
               refine WQ.then ?_
               refine W.seq ?_
               by_cases hu : u = none
               · subst hu
                 refine W.region ?_
                 refine omv ?_
                 refine ov vlenS ?_
                 refine ov (v2 V_eql) ?_
                 refine nq ?_
                 refine W.cond_true rfl rfl ?_
                 refine W.region ?_
                 refine omv ?_
                 refine omv ?_
                 refine ov (viO 1) ?_
                 refine ov (vldV (i := i) hvs hv) ?_
                 refine obs 31 24 (fun b112 => ?_)
                 refine oas ?_
                 refine WL.nil ?_
                 refine WQ.block_normal ?_
                 refine WQ.then ?_
                 refine W.region ?_
                 refine omv ?_
                 first | refine ov vaddN ?_ | refine ov vadd ?_
                 refine oas ?_
                 refine WL.nil ?_
                 refine WQ.un (B := b112) (v := .slice B q bc) (l := b) ?_
                 exact ag (i + 1, apD E ga2.rs.length b, r93, o, vo, lo, some (b112, .slice B q bc, b)) [12, 14, 15, 0, 1, 2, 5, 6, 7, 8, 9, 10, 11, 13, 54, 65] (by (try dsimp only); exact ⟨by omega, by omega, hno2 rfl _ _ hrw⟩) (by (try dsimp only); omega) rfl cov
               · obtain ⟨⟨ub, uv, ux⟩, rfl⟩ := Option.ne_none_iff_exists'.1 hu
                 refine W.region ?_
                 refine omv ?_
                 refine ov vlenS ?_
                 refine ov (v2 V_eql) ?_
                 refine nq ?_
                 refine W.cond_false rfl rfl ?_
                 refine W.skip ?_
                 refine WQ.block_normal ?_
                 refine WQ.then ?_
                 refine W.region ?_
                 refine omv ?_
                 first | refine ov vaddN ?_ | refine ov vadd ?_
                 refine oas ?_
                 refine WL.nil ?_
                 exact ag (i + 1, apD E ga2.rs.length b, r93, o, vo, lo, some (ub, uv, ux)) [12, 14, 15, 0, 1, 2, 5, 6, 7, 8, 9, 10, 11, 13, 54, 65] (by (try dsimp only); exact ⟨by omega, by omega, hno1 (by simp)⟩) (by (try dsimp only); omega) rfl cov
           · refine W.region ?_
             refine omv ?_
             refine omv ?_
             refine ov (viO 1) ?_
             refine ov (vldV (i := i) hvs hv) ?_
             refine ov vlenS ?_
             refine ov (v2 V_gtr) ?_
             refine nq ?_
             refine W.cond_true rfl (decide_eq_true (by omega)) ?_
             refine sr ?_
             refine omv ?_
             refine oas ?_
             refine nq ?_
             refine W.ret ?_
             refine WQ.then_ret ?_
             refine WQ.block_ret ?_
             refine WQ.then_ret ?_
             refine WQ.then_ret ?_
             refine WQ.block_ret ?_
             refine WQ.then_ret ?_
             refine WQ.block_ret ?_
             refine WQ.then_ret ?_
             refine WQ.then_ret ?_
             refine WQ.block_ret ?_
             refine WQ.then_ret ?_
             refine WQ.ret1 Try.results11 (.tmp rfl) ?_
             intro w' hp; exact ⟨by first | rfl | (simp; done) | (simp [*]; done) | simp_all, hp.forget⟩
         · refine W.exit ?_
           refine WQ.then_exit ?_
           refine WQ.then_exit ?_
           refine WQ.block_hit ?_
           refine WQ.then ?_
           refine W.seq ?_
           have hkr : 0 ≤ kl.getD ro 0 ∧ kl.getD ro 0 ≤ 18446744073709551615 := hkb _ (by rw [List.getD_eq_getElem?_getD, List.getElem?_eq_getElem (by omega)]; exact List.getElem_mem (by omega))
           refine W.region ?_
           refine omv ?_
           refine omv ?_
           first | refine ov (viA0 2) ?_ | refine ov (viA0Z 2) ?_
           first | refine ov vldI ?_ | refine ov vld ?_
           refine cms rfl (fun w hp => crash21_calls b23 E hI.rn.ok (kl.getD ro 0) hkr w (HP.here hp cov)) ?_
           refine nx ?_
           refine omv ?_
           refine cgP _ rfl (fun w hp => open22_calls b23 (crD E (kl.getD ro 0)) (crD_ok hI.rn.ok) w (HP.here hp cov)) (fun r120 h120 => ?_)
           simp only [List.cons_append, List.nil_append, List.append_nil, List.append_assoc]
           refine WL.back (gRL 5 31 r120.2) ?_
           simp only [List.cons_append, List.nil_append, List.append_nil, List.append_assoc]
           refine omv ?_
           refine ov vex ?_
           refine ov vex ?_
           refine oas ?_
           refine oas ?_
           refine nq ?_
           refine W.seq ?_
           refine sr ?_
           refine omv ?_
           refine ov (V_eqlP (by kernel_rfl) rfl rfl) ?_
           refine omv ?_
           refine oy rfl rfl ?_
           refine omv ?_
           refine oy rfl rfl ?_
           refine ov (v2 V_neq) ?_
           refine ov (V_pick_f rfl rfl rfl) ?_
           refine nq ?_
           refine W.cond_false rfl (by decide) ?_
           refine W.skip ?_
           refine WQ.then ?_
           refine sr ?_
           refine omv ?_
           refine oas ?_
           refine nq ?_
           refine W.seq ?_
           have hn120 : r120.2.rs.length ≤ 26 * ro + 26 := by
             have := hI.oplen (kl.getD ro 0)
             rw [← GR.ll_len, h120.2]; omega
           refine W.region ?_
           refine omv ?_
           refine cgP _ rfl (fun w hp => alll22_calls b23 (crD E (kl.getD ro 0)) r120.1 r120.2 h120.1 (by omega) (GR.le59 h120.1 (by rw [h120.2]; exact opL_le (crD_ok hI.rn.ok))) w (HP.here hp cov)) (fun r131 h131 => ?_)
           simp only [List.cons_append, List.nil_append, List.append_nil, List.append_assoc]
           refine WL.back (gRL 5 31 r120.2) ?_
           simp only [List.cons_append, List.nil_append, List.append_nil, List.append_assoc]
           refine WL.back (gRL 5 31 r131) ?_
           simp only [List.cons_append, List.nil_append, List.append_nil, List.append_assoc]
           refine oas ?_
           refine nq ?_
           refine W.seq ?_
           have hn131 : r131.rs.length = r120.2.rs.length := by rw [← GR.ll_len, ← GR.ll_len, h131.2]
           have hun1 : (unV u).length ≤ 1 := by cases u <;> simp [unV]
           refine W.region ?_
           refine omv ?_
           refine omv ?_
           refine cp rfl (fun w hp => sameRows_calls _ _ _ _ _ _ _ _ w (GR.rows hp h131.1 (by omega)) (su_rows hp hI.sok hI.o hI.old (by omega))) ?_
           refine oas ?_
           refine nx ?_
           refine omv ?_
           refine obs 31 24 (fun b136 => ?_)
           refine omv ?_
           refine oapV 31 24 (fun b138 c138 r138 h138 => ?_) (hs := fun w hp => (su_two hp hI.sok hI.o hI.old).1)
           refine omv ?_
           refine oapV 31 24 (fun b140 c140 r140 h140 => ?_) (hs := fun w hp => (un_two hp hI.un).1)
           refine cp rfl (fun w hp => sameRows_calls _ _ _ _ _ _ _ _ w (GR.rows hp h131.1 (by omega)) (su_all hp hI.sok hI.o hI.old hI.un (by simp; omega))) ?_
           refine oas ?_
           refine nq ?_
           refine W.seq ?_
           refine W.seq ?_
           by_cases hone : r131.ll = s.ll ++ lo
           · refine W.region ?_
             refine omv ?_
             refine ov vnot ?_
             refine omv ?_
             refine on rfl (by simp [hone]) ?_
             refine on rfl (by simp [hone]) ?_
             refine ov (V_pick_f rfl (by simp [hone]) rfl) ?_
             refine nq ?_
             refine W.cond_false rfl rfl ?_
             refine W.skip ?_
             refine WQ.then ?_
             refine W.region ?_
             refine omv ?_
             refine oas ?_
             refine WL.nil ?_
             refine WQ.block_normal ?_
             refine WQ.then ?_
             refine W.region ?_
             refine omv ?_
             first | refine ov vaddN ?_ | refine ov vadd ?_
             refine oas ?_
             refine WL.nil ?_
             exact ag (ro + 1, crD E (kl.getD ro 0), r120.1, r120.2, r131) [10, 12, 13, 0, 1, 2, 5, 6, 7, 8, 9, 11, 54] (by (try dsimp only); exact ⟨by omega, by rw [h120.2]; exact (hI.rn.bk _).1, h120.1, h131.1, h131.2, by omega⟩) (by (try dsimp only); omega) rfl cov
           · refine W.region ?_
             refine omv ?_
             refine ov vnot ?_
             refine omv ?_
             refine oy rfl (by simp [hone]) ?_
             refine omv ?_
             refine oy rfl (by simp [hone]) ?_
             refine ov vnot ?_
             refine ov (V_pick_t rfl (by simp [hone]) rfl) ?_
             refine nq ?_
             refine W.cond_false rfl (by simp [hI.two _ (h131.2.trans h120.2) hone]) ?_
             refine W.skip ?_
             refine WQ.then ?_
             refine W.region ?_
             refine omv ?_
             refine oas ?_
             refine WL.nil ?_
             refine WQ.block_normal ?_
             refine WQ.then ?_
             refine W.region ?_
             refine omv ?_
             first | refine ov vaddN ?_ | refine ov vadd ?_
             refine oas ?_
             refine WL.nil ?_
             exact ag (ro + 1, crD E (kl.getD ro 0), r120.1, r120.2, r131) [10, 12, 13, 0, 1, 2, 5, 6, 7, 8, 9, 11, 54] (by (try dsimp only); exact ⟨by omega, by rw [h120.2]; exact (hI.rn.bk _).1, h120.1, h131.1, h131.2, by omega⟩) (by (try dsimp only); omega) rfl cov
       · refine on rfl (decide_eq_false g2) ?_
         refine on rfl (decide_eq_false g2) ?_
         refine ov (V_pick_fd rfl g2 rfl) ?_
         refine nq ?_
         refine W.cond_false rfl rfl ?_
         refine W.exit ?_
         refine WQ.then_exit ?_
         refine WQ.then_exit ?_
         refine WQ.block_hit ?_
         refine WQ.then ?_
         refine W.seq ?_
         have hkr : 0 ≤ kl.getD ro 0 ∧ kl.getD ro 0 ≤ 18446744073709551615 := hkb _ (by rw [List.getD_eq_getElem?_getD, List.getElem?_eq_getElem (by omega)]; exact List.getElem_mem (by omega))
         refine W.region ?_
         refine omv ?_
         refine omv ?_
         first | refine ov (viA0 2) ?_ | refine ov (viA0Z 2) ?_
         first | refine ov vldI ?_ | refine ov vld ?_
         refine cms rfl (fun w hp => crash21_calls b23 E hI.rn.ok (kl.getD ro 0) hkr w (HP.here hp cov)) ?_
         refine nx ?_
         refine omv ?_
         refine cgP _ rfl (fun w hp => open22_calls b23 (crD E (kl.getD ro 0)) (crD_ok hI.rn.ok) w (HP.here hp cov)) (fun r120 h120 => ?_)
         simp only [List.cons_append, List.nil_append, List.append_nil, List.append_assoc]
         refine WL.back (gRL 5 31 r120.2) ?_
         simp only [List.cons_append, List.nil_append, List.append_nil, List.append_assoc]
         refine omv ?_
         refine ov vex ?_
         refine ov vex ?_
         refine oas ?_
         refine oas ?_
         refine nq ?_
         refine W.seq ?_
         refine sr ?_
         refine omv ?_
         refine ov (V_eqlP (by kernel_rfl) rfl rfl) ?_
         refine omv ?_
         refine oy rfl rfl ?_
         refine omv ?_
         refine oy rfl rfl ?_
         refine ov (v2 V_neq) ?_
         refine ov (V_pick_f rfl rfl rfl) ?_
         refine nq ?_
         refine W.cond_false rfl (by decide) ?_
         refine W.skip ?_
         refine WQ.then ?_
         refine sr ?_
         refine omv ?_
         refine oas ?_
         refine nq ?_
         refine W.seq ?_
         have hn120 : r120.2.rs.length ≤ 26 * ro + 26 := by
           have := hI.oplen (kl.getD ro 0)
           rw [← GR.ll_len, h120.2]; omega
         refine W.region ?_
         refine omv ?_
         refine cgP _ rfl (fun w hp => alll22_calls b23 (crD E (kl.getD ro 0)) r120.1 r120.2 h120.1 (by omega) (GR.le59 h120.1 (by rw [h120.2]; exact opL_le (crD_ok hI.rn.ok))) w (HP.here hp cov)) (fun r131 h131 => ?_)
         simp only [List.cons_append, List.nil_append, List.append_nil, List.append_assoc]
         refine WL.back (gRL 5 31 r120.2) ?_
         simp only [List.cons_append, List.nil_append, List.append_nil, List.append_assoc]
         refine WL.back (gRL 5 31 r131) ?_
         simp only [List.cons_append, List.nil_append, List.append_nil, List.append_assoc]
         refine oas ?_
         refine nq ?_
         refine W.seq ?_
         have hn131 : r131.rs.length = r120.2.rs.length := by rw [← GR.ll_len, ← GR.ll_len, h131.2]
         have hun1 : (unV u).length ≤ 1 := by cases u <;> simp [unV]
         refine W.region ?_
         refine omv ?_
         refine omv ?_
         refine cp rfl (fun w hp => sameRows_calls _ _ _ _ _ _ _ _ w (GR.rows hp h131.1 (by omega)) (su_rows hp hI.sok hI.o hI.old (by omega))) ?_
         refine oas ?_
         refine nx ?_
         refine omv ?_
         refine obs 31 24 (fun b136 => ?_)
         refine omv ?_
         refine oapV 31 24 (fun b138 c138 r138 h138 => ?_) (hs := fun w hp => (su_two hp hI.sok hI.o hI.old).1)
         refine omv ?_
         refine oapV 31 24 (fun b140 c140 r140 h140 => ?_) (hs := fun w hp => (un_two hp hI.un).1)
         refine cp rfl (fun w hp => sameRows_calls _ _ _ _ _ _ _ _ w (GR.rows hp h131.1 (by omega)) (su_all hp hI.sok hI.o hI.old hI.un (by simp; omega))) ?_
         refine oas ?_
         refine nq ?_
         refine W.seq ?_
         refine W.seq ?_
         by_cases hone : r131.ll = s.ll ++ lo
         · refine W.region ?_
           refine omv ?_
           refine ov vnot ?_
           refine omv ?_
           refine on rfl (by simp [hone]) ?_
           refine on rfl (by simp [hone]) ?_
           refine ov (V_pick_f rfl (by simp [hone]) rfl) ?_
           refine nq ?_
           refine W.cond_false rfl rfl ?_
           refine W.skip ?_
           refine WQ.then ?_
           refine W.region ?_
           refine omv ?_
           refine oas ?_
           refine WL.nil ?_
           refine WQ.block_normal ?_
           refine WQ.then ?_
           refine W.region ?_
           refine omv ?_
           first | refine ov vaddN ?_ | refine ov vadd ?_
           refine oas ?_
           refine WL.nil ?_
           exact ag (ro + 1, crD E (kl.getD ro 0), r120.1, r120.2, r131) [10, 12, 13, 0, 1, 2, 5, 6, 7, 8, 9, 11, 54] (by (try dsimp only); exact ⟨by omega, by rw [h120.2]; exact (hI.rn.bk _).1, h120.1, h131.1, h131.2, by omega⟩) (by (try dsimp only); omega) rfl cov
         · refine W.region ?_
           refine omv ?_
           refine ov vnot ?_
           refine omv ?_
           refine oy rfl (by simp [hone]) ?_
           refine omv ?_
           refine oy rfl (by simp [hone]) ?_
           refine ov vnot ?_
           refine ov (V_pick_t rfl (by simp [hone]) rfl) ?_
           refine nq ?_
           refine W.cond_false rfl (by simp [hI.two _ (h131.2.trans h120.2) hone]) ?_
           refine W.skip ?_
           refine WQ.then ?_
           refine W.region ?_
           refine omv ?_
           refine oas ?_
           refine WL.nil ?_
           refine WQ.block_normal ?_
           refine WQ.then ?_
           refine W.region ?_
           refine omv ?_
           first | refine ov vaddN ?_ | refine ov vadd ?_
           refine oas ?_
           refine WL.nil ?_
           exact ag (ro + 1, crD E (kl.getD ro 0), r120.1, r120.2, r131) [10, 12, 13, 0, 1, 2, 5, 6, 7, 8, 9, 11, 54] (by (try dsimp only); exact ⟨by omega, by rw [h120.2]; exact (hI.rn.bk _).1, h120.1, h131.1, h131.2, by omega⟩) (by (try dsimp only); omega) rfl cov
     · refine W.exit ?_
       refine WQ.then_exit ?_
       refine WQ.then_exit ?_
       refine WQ.block_hit ?_
       refine WQ.then ?_
       refine sr ?_
       refine omv ?_
       refine oas ?_
       refine nq ?_
       refine W.ret ?_
       refine WQ.ret1 Try.results11 (.tmp rfl) ?_
       intro w' hp; exact ⟨by first | rfl | (simp; done) | (simp [*]; done) | simp_all, hp.forget⟩

end Go.Proofs.Ytnpnnafcdnefiaa