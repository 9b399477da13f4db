/- Slices that grow: nil, or a block of their own. -/
import Derived.Test.YtbalnjejamigaaaX2
set_option linter.unusedVariables false
set_option linter.unusedSimpArgs false
namespace Go.X
open Go.RowKit

section
variable {w0 w : World} {O : List Nat} {L L' : List (Nat × Blk)} {b n r o m s cap l h : Nat} {xs rs : List Value} {t e : TypeId} {A : Option Addr} {k : IntKind} {is : List Int}
theorem HP.sgr {o : Gr} (hp : HP w0 w O L) (hd : DelL (gL o n xs e) L L') (hn : xs.length = n) (ho : GrOK o n) (h1 : ∀ v ∈ xs, one v = true) : SrW w 1 (gA o) n xs := by
  have hp2 := hp.perm hd.perm.symm
  subst hn
  cases o with
  | none => have : xs = [] := List.length_eq_zero_iff.1 ho; subst this; exact SrW.nil
  | some x => exact hp2.sown (b := x.1) (List.mem_append_left _ List.mem_cons_self) h1
theorem hat {cs : List Seg} (h : AtW w b cs := by first | assumption | exact AtW.step (by assumption) (by assumption) (by first | (simp; done) | simp [*]) | exact HP.atw (by assumption) (by repeat (first | exact List.Mem.head _ | apply List.Mem.tail)) | exact HP.atr (by assumption) (by repeat (first | exact List.Mem.head _ | apply List.Mem.tail))) : AtW w b cs := h
theorem HP.ssub {cs : List Seg} (hp : HP w0 w O L) (hm : (b, Blk.cells cs t) ∈ L) (hs : subS cs o n = some [(n, xs)]) (h1 : ∀ v ∈ xs, one v = true) : SrW w 1 (some ⟨b, o, none⟩) n xs := by
  have hw := hp.atw hm
  obtain ⟨e, f, hl⟩ := subS_flat hw.1 hs
  exact hw.cells (by rw [Nat.mul_one, ← e]; simp [flat]) (by omega) h1
/-- Found by itself: a slice's integers. -/
theorem sw1 (h : SrW w 1 A n xs := by first | assumption | exact HP.sown (by assumption) (by repeat (first | exact List.Mem.head _ | apply List.Mem.tail)) (by first | exact iv_one | (simp [one]; done)) | exact HP.sall (by assumption) (by repeat (first | exact List.Mem.head _ | apply List.Mem.tail)) (by first | exact iv_one | (simp [one]; done)) | exact HP.ssub (by assumption) (by repeat (first | exact List.Mem.head _ | apply List.Mem.tail)) (by rfl) (by first | exact iv_one | (simp [one]; done)) | exact HP.sownR (by assumption) (by repeat (first | exact List.Mem.head _ | apply List.Mem.tail)) (by first | exact iv_one | (simp [one]; done)) | exact HP.sold (by assumption) (by assumption) (by simp [*]) | exact HP.sgr (by assumption) dell sc (by assumption) (by first | exact iv_one | (simp [one]; done)) | exact SrW.nilI) : SrW w 1 A n xs := h
theorem sw (h : SrW w 1 A n xs := by first | exact sw1 | exact SrW.dropI sw1 (by omega) (by omega) | exact SrW.cutI sw1 (by omega) (by omega) (by omega) | exact SrW.takeI sw1 (by omega) | exact SrW.cutI (SrW.takeI sw1 (by omega)) (by omega) (by omega) (by omega) | exact SrW.cutI (SrW.cutI sw1 (by omega) (by omega) (by omega)) (by omega) (by omega) (by omega)) : SrW w 1 A n xs := h
end

section
variable {c : Cx} {Q : Post} {S S1 : Slots} {L L1 L' Lr : List (Nat × Blk)} {ops : Array Oper} {d : Option Tmp} {t : Tmp} {ty T T' : TypeId} {pos : String} {af : Array Edge} {rest : List Oper} {op : Op} {x y z : Operand} {v : Value}

theorem Eff.perm {R : Value → List (Nat × Blk) → Prop} (h : Eff c S L' op ty R) (hp : L.Perm L') : Eff c S L op ty R := fun a w st => h a w ⟨st.sl, st.hp.perm hp.symm⟩
theorem Eff.post {R R' : Value → List (Nat × Blk) → Prop} (h : Eff c S L op ty R) (hr : ∀ v M, R v M → ∃ M', M.Perm M' ∧ R' v M') : Eff c S L op ty R' := fun a w st => by
  obtain ⟨v, w', M, h1, h2, h3⟩ := h a w st
  obtain ⟨M', h4, h5⟩ := hr v M h3
  exact ⟨v, w', M', h1, h2.perm h4.symm, h5⟩
theorem E_appG {o : Gr} {n m cap2 : Nat} {xs ys : List Value} {A : Option Addr} (e by' : Nat) (ht : slE c.P T e by' = true) (hx : ev S x = some (.slice (gA o) n (gC o))) (hy : ev S y = some (.slice A m cap2)) (hn : xs.length = n) (ho : GrOK o n) (hD : DelL (gL o n xs e) L Lr)
    (hs : Sr c L 1 A m ys) (hb : (n + m) * by' ≤ 140737488355328) (hl : n + m ≤ 9223372036854775807) :
    Eff c S L (.call ⟨.builtin .append, #[x, y], #[T, T]⟩) ty fun v M => ∃ o', GrOK o' (n + m) ∧ (0 < n + m → o' ≠ none) ∧ v = .slice (gA o') (n + m) (gC o') ∧ M = Lr ++ gL o' (n + m) (xs ++ ys) e := by
  have hpm := hD.perm
  have hyl : ∀ a w, St c S L a w → ys.length = m := fun a w st => by have := (hs w st.hp).1; omega
  cases o with
  | none =>
    have hx0 : xs = [] := List.length_eq_zero_iff.1 (by rw [hn]; exact ho)
    subst hx0
    have hn0 : n = 0 := by simpa using hn.symm
    subst hn0
    by_cases hm : m = 0
    · subst hm
      intro a w st
      have h0 := V_append0 (c := c) (L := L) (ty := ty) e by' ht hx hy (Nat.zero_le _) a w st
      have hys : ys = [] := List.length_eq_zero_iff.1 (hyl a w st)
      subst hys
      exact ⟨_, w, _, .inl h0, st.hp.perm hpm.symm, none, rfl, fun h => by omega, rfl, by simp [gL]⟩
    · intro a w st
      have hys := hyl a w st
      refine (Eff.post (E_appendN (c := c) (S := S) (L := L) (ty := ty) e by' ht hx hy hs (by omega) (by simpa using hb) (by omega)) fun v M ⟨b', cap', rs', h1, h2, h3⟩ => ?_) a w st
      subst h2; subst h3
      refine ⟨Lr ++ gL (some (b', cap', rs')) (0 + m) ([] ++ ys) e, ?_, some (b', cap', rs'), by simpa [GrOK] using h1, by simp, by simp [gA, gC], rfl⟩
      simp only [gL, List.nil_append, Nat.zero_add]
      exact (List.Perm.cons _ hpm).trans (List.perm_append_comm (l₁ := [(b', Blk.cells [(m, ys), (cap' - m, rs')] e)]) (l₂ := Lr))
  | some q =>
    obtain ⟨b, cap, rs⟩ := q
    subst hn
    intro a w st
    have hys := hyl a w st
    refine (Eff.perm (Eff.post (E_append (c := c) (S := S) (Lr := Lr) (ty := ty) e by' ht hx hy ho (.here _) (fun w hp => hs w (hp.perm hpm)) hb hl) fun v M ⟨b', cap', rs', h1, h2, h3⟩ => ?_) hpm) a w st
    subst h2; subst h3
    refine ⟨Lr ++ gL (some (b', cap', rs')) (xs.length + m) (xs ++ ys) e, ?_, some (b', cap', rs'), h1, by simp, rfl, rfl⟩
    simp only [gL]
    exact (List.perm_append_comm (l₁ := [(b', Blk.cells [(xs.length + m, xs ++ ys), (cap' - (xs.length + m), rs')] e)]) (l₂ := Lr))
/-- Grown by others' integers. -/
theorem oapG {o : Gr} {n m cap2 : Nat} {k : IntKind} {l l2 : List Int} {A : Option Addr} (e by' : Nat)
    (K : ∀ o', GrOK o' (n + m) → (0 < n + m → o' ≠ none) → WL c ops Q rest ((t, .slice (gA o') (n + m) (gC o')) :: S) (Lr ++ gL o' (n + m) (iv k (l ++ l2)) e))
    (ht : slE c.P T e by' = true := by kernel_rfl) (hx : ev S x = some (.slice (gA o) n (gC o)) := by exact rfl) (hy : ev S y = some (.slice A m cap2) := by exact rfl) (hD : DelL (gL o n (iv k l) e) L Lr := by exact dell) (hn : l.length = n := by exact sc) (ho : GrOK o n := by exact sc)
    (hs : Sr c L 1 A m (iv k l2) := by intro w hp; exact sw) (hb : (n + m) * by' ≤ 140737488355328 := by omega) (hl : n + m ≤ 9223372036854775807 := by omega) (hd : Nat.blt t c.n = true := by exact rfl) :
    WL c ops Q (⟨some t, .call ⟨.builtin .append, #[x, y], #[T, T]⟩, ty, pos, af, none⟩ :: rest) S L :=
  WL.eff (d := some t) hd (E_appG e by' ht hx hy (by rw [iv_len, hn]) ho hD hs hb hl) fun v M ⟨o', h1, h2, hv, hM⟩ => by subst hv; subst hM; rw [iv_app]; exact K o' h1 h2
/-- An own block grown by others' integers. -/
theorem oap {n m cap cap2 b : Nat} {k : IntKind} {l l2 : List Int} {rs : List Value} {A : Option Addr} (e by' : Nat)
    (K : ∀ b' cap' rs', n + m ≤ cap' → WL c ops Q rest ((t, .slice (some ⟨b', 0, none⟩) (n + m) cap') :: S) ((b', .cells [(n + m, iv k (l ++ l2)), (cap' - (n + m), rs')] e) :: Lr))
    (ht : slE c.P T e by' = true := by kernel_rfl) (hx : ev S x = some (.slice (some ⟨b, 0, none⟩) n cap) := by exact rfl) (hy : ev S y = some (.slice A m cap2) := by exact rfl) (hD : Del b (.cells [(n, iv k l), (cap - n, rs)] e) L Lr := by repeat (first | exact Del.here _ | apply Del.there)) (hn : n ≤ cap := by omega)
    (hs : Sr c L 1 A m (iv k l2) := by intro w hp; exact sw) (hb : (n + m) * by' ≤ 140737488355328 := by omega) (hl : n + m ≤ 9223372036854775807 := by omega) (hd : Nat.blt t c.n = true := by exact rfl) :
    WL c ops Q (⟨some t, .call ⟨.builtin .append, #[x, y], #[T, T]⟩, ty, pos, af, none⟩ :: rest) S L :=
  WL.append e by' hd ht hx hy hn hD hs hb hl (by rw [iv_app]; exact K)
/-- A slice of integers, built. -/
theorem obsI {n : Nat} {k : IntKind} {vs : List Value} {parts : Array (Nat × Operand)} (e by' : Nat) (l : List Int) (K : ∀ b, WL c ops Q rest ((t, .slice (some ⟨b, 0, none⟩) n n) :: S) ((b, .cells [(n, iv k l), (n - n, [])] e) :: L))
    (ht : slE c.P T e by' = true := by kernel_rfl) (hi : parts.toList.map (·.1) = List.range' 0 n := by exact rfl) (hv : evs S (parts.toList.map (·.2)) = some vs := by exact rfl) (h1 : vs = iv k l := by rfl) (hn : n ≤ 16777216 := by decide) (hd : Nat.blt t c.n = true := by exact rfl) :
    WL c ops Q (⟨some t, .buildSlice T n parts, ty, pos, af, none⟩ :: rest) S L := by
  subst h1; exact WL.bslice e by' hd ht hi hv iv_one hn K
theorem obs {n : Nat} {vs : List Value} {parts : Array (Nat × Operand)} (e by' : Nat) (K : ∀ b, WL c ops Q rest ((t, .slice (some ⟨b, 0, none⟩) n n) :: S) ((b, .cells [(n, vs), (n - n, [])] e) :: L))
    (ht : slE c.P T e by' = true := by kernel_rfl) (hi : parts.toList.map (·.1) = List.range' 0 n := by exact rfl) (hv : evs S (parts.toList.map (·.2)) = some vs := by exact rfl) (h1 : ∀ v ∈ vs, one v = true := by simp [one]) (hn : n ≤ 16777216 := by decide) (hd : Nat.blt t c.n = true := by exact rfl) :
    WL c ops Q (⟨some t, .buildSlice T n parts, ty, pos, af, none⟩ :: rest) S L := WL.bslice e by' hd ht hi hv h1 hn K
/-- Integers, made: all are 0. -/
theorem omkI {n : Nat} {k k1 k2 : IntKind} {p q : Int} (e by' : Nat) (K : ∀ b, WL c ops Q rest ((t, .slice (some ⟨b, 0, none⟩) n n) :: S) ((b, .cells [(n, iv k (List.replicate n 0)), (n - n, [])] e) :: L))
    (hx : ev S x = some (.int k1 p) := by exact rfl) (hy : ev S y = some (.int k2 q) := by exact rfl) (hp : p = (n : Int) := by first | rfl | omega) (hq : q = (n : Int) := by first | rfl | omega) (ht : slE c.P T e by' = true := by kernel_rfl) (hz : zeroIs c.P e [(1, [.int k 0])] := by exact zi) (hb : n * by' ≤ 281474976710656 := by omega) (hl : n ≤ 9223372036854775807 := by omega) (hd : Nat.blt t c.n = true := by exact rfl) :
    WL c ops Q (⟨some t, .makeSlice T x y, ty, pos, af, none⟩ :: rest) S L := WL.make e by' (.int k 0) hd ht hz hx hy hp hq hb hl (by rw [iv_rep]; exact K)
theorem vbs {A : Option Addr} {n cap : Nat} {l : List Int} (hx : ev S x = some (.slice A n cap) := by exact rfl) (hs : Sr c L 1 A n (iv .u8 l) := by intro w hp; exact sw) (ht : b2sB c.P T T' = true := by kernel_rfl) : Val c S L (.convert T T' x) ty (.string (bstr l)) := V_b2s ht hx hs
/-- A call that yields a slice that grew. -/
theorem cgG {f : FuncId} {xs : Array Operand} {ats : Array TypeId} {vs : List Value} {V : Gr → Value} {B : Gr → Prop} {ys : Gr → List (Nat × Blk)} (ha : evs S xs.toList = some vs)
    (hc : ∀ w, HP c.w0 w c.O L → Calls c.P f vs.toArray w fun e' w' => ∃ o, B o ∧ e' = .returned (V o) ∧ HP w w' [] (ys o)) (k : ∀ o, B o → WL c ops Q rest (putS d (V o) S) (L ++ ys o))
    (hf : fnB c.P f = true := by kernel_rfl) (hd : inB c.n d = true := by exact rfl) : WL c ops Q (⟨d, .call ⟨.value (.func f), xs, ats⟩, ty, pos, af, none⟩ :: rest) S L :=
  WL.cal hd (C_fn (R := fun v M => ∃ o, B o ∧ v = V o ∧ M = L ++ ys o) hf ha fun w hp => (hc w hp).mono fun _ _ ⟨o, h1, h2, h3⟩ => ⟨_, _, h2, (hp.trans0 h3).perm List.perm_append_comm, o, h1, rfl, rfl⟩)
    fun v M ⟨o, h1, h2, h3⟩ => by subst h2; subst h3; exact k o h1
end
end Go.X
