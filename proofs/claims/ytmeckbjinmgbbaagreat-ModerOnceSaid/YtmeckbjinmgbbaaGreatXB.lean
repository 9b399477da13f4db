/- Short forms of the walk's rules: what is plain is found by default tactics. -/
import Derived.Test.YtmeckbjinmgbbaaGreatXA
import Derived.OpenShut
import Derived.DataElems
import Derived.MapKept
import Derived.Recover
set_option linter.unusedVariables false
set_option linter.unusedSimpArgs false

namespace Go.X
open Go.RowKit

/-! ### side conditions -/
theorem mm {α : Type} {a : α} {l : List α} (h : a ∈ l := by repeat (first | exact List.Mem.head _ | apply List.Mem.tail)) : a ∈ l := h

/-! ### slices' cells, by what is tracked -/
section
variable {w0 w : World} {O : List Nat} {L : List (Nat × Blk)} {b n r o m s cap l h : Nat} {xs rs : List Value} {t : TypeId} {A : Option Addr} {k : IntKind} {is : List Int}
theorem SrW.nilI : SrW w s A 0 (iv k []) := SrW.nil
theorem HP.atw {cs : List Seg} (hp : HP w0 w O L) (hm : (b, Blk.cells cs t) ∈ L) : AtW w b cs := by
  have := hp.held _ hm
  exact ⟨this.1, t, _, this.2⟩
theorem HP.atr {cs : List Seg} (hp : HP w0 w O L) (hm : (b, Blk.ro cs) ∈ L) : AtW w b cs := hp.held _ hm
theorem AtW.sown (hw : AtW w b [(n, xs), (r, rs)]) (h1 : ∀ v ∈ xs, one v = true) : SrW w 1 (some ⟨b, 0, none⟩) n xs := by
  obtain ⟨hl, hf⟩ := hw.1.cons
  refine hw.cells ?_ (by simp [flat]; omega) h1
  simp [flat, ← hl]
theorem AtW.sall (hw : AtW w b [(n, xs)]) (h1 : ∀ v ∈ xs, one v = true) : SrW w 1 (some ⟨b, 0, none⟩) n xs := by
  obtain ⟨hl, hf⟩ := hw.1.cons
  refine hw.cells ?_ (by simp [flat]; omega) h1
  simp [flat, ← hl]
theorem HP.sown (hp : HP w0 w O L) (hm : (b, Blk.cells [(n, xs), (r, rs)] t) ∈ L) (h1 : ∀ v ∈ xs, one v = true) : SrW w 1 (some ⟨b, 0, none⟩) n xs := (hp.atw hm).sown h1
theorem HP.sall (hp : HP w0 w O L) (hm : (b, Blk.cells [(n, xs)] t) ∈ L) (h1 : ∀ v ∈ xs, one v = true) : SrW w 1 (some ⟨b, 0, none⟩) n xs := (hp.atw hm).sall h1
theorem HP.sownR (hp : HP w0 w O L) (hm : (b, Blk.ro [(n, xs), (r, rs)]) ∈ L) (h1 : ∀ v ∈ xs, one v = true) : SrW w 1 (some ⟨b, 0, none⟩) n xs := (hp.atr hm).sown h1
theorem HP.sold (hp : HP w0 w O L) (h : SrW w0 s A n xs) (hO : ∀ b o, A = some ⟨b, o, none⟩ → b ∉ O) : SrW w s A n xs := h.step hp hO
theorem SrW.takeI (h : SrW w 1 A n (iv k is)) (hm : m ≤ n) : SrW w 1 A m (iv k (is.take m)) := by
  have := h.take hm; rwa [Nat.mul_one, iv_take] at this
theorem SrW.cutI (hs : SrW w 1 A n (iv k is)) (h1 : l ≤ h) (h2 : h ≤ n) (h3 : n ≤ m) : SrW w 1 (cutA A l m 1) (h - l) (iv k ((is.drop l).take (h - l))) := by
  have := hs.cut h1 h2 h3; rwa [Nat.mul_one, Nat.mul_one, iv_drop, iv_take] at this
theorem SrW.dropI (hs : SrW w 1 A n (iv k is)) (h1 : l ≤ n) (h3 : n ≤ m) : SrW w 1 (cutA A l m 1) (n - l) (iv k (is.drop l)) := by
  have := hs.cutI (l := l) (h := n) (m := m) h1 (Nat.le_refl _) h3
  rwa [List.take_of_length_le (by have := hs.1; rw [iv_len] at this; simp; omega)] at this
theorem SrW.partI (hs : SrW w 1 (some ⟨b, o, none⟩) n (iv k is)) (hm : l + m ≤ n) : SrW w 1 (some ⟨b, o + l, none⟩) m (iv k ((is.drop l).take m)) := by
  have := hs.part hm; rwa [iv_drop, iv_take] at this
theorem hh {k : Blk} (hp : HP w0 w O L) (h : (b, k) ∈ L := by repeat (first | exact List.Mem.head _ | apply List.Mem.tail)) : k.Is w.heap[b]? := hp.held _ h
theorem ne_of2 {a b : Nat} {k k' : Blk} (hp : HP w0 w O L) (h : [(a, k), (b, k')].Sublist L) : a ≠ b := by
  have := hp.nodup.sublist (h.map (·.1))
  simp at this; exact this
end

theorem fit {ds : List Seg} (h : Fit ds := by repeat (first | exact Fit.nil | refine Fit.mk (by first | rfl | (simp [iv_len]; done) | (simp [iv_len, *]; done) | (simp [iv_len]; omega) | (simp [iv_len, *]; omega)) ?_)) : Fit ds := h
theorem fln {ds : List Seg} {n : Nat} (h : (flat ds).length = n := by first | rfl | (simp [flat, iv_len]; done) | (simp [flat, iv_len, *]; done) | (simp [flat, iv_len]; omega) | (simp [flat, iv_len, *]; omega)) : (flat ds).length = n := h
theorem ones_nil : ∀ v ∈ flat [], one v = true := fun v hv => by cases hv
theorem ones_cons {n : Nat} {xs : List Value} {r : List Seg} (h : ∀ v ∈ xs, one v = true) (hr : ∀ v ∈ flat r, one v = true) : ∀ v ∈ flat ((n, xs) :: r), one v = true := fun v hv => by
  rw [flat_cons] at hv
  exact (List.mem_append.1 hv).elim (h v) (hr v)
/-! ### tracked blocks, taken in any order -/
inductive DelE (b : Nat) (k : Blk) : List (Nat × Blk) → List (Nat × Blk) → Prop where
  | here {k0 : Blk} (e : k0 = k) (L : List (Nat × Blk)) : DelE b k ((b, k0) :: L) L
  | there {x : Nat × Blk} {L L' : List (Nat × Blk)} (h : DelE b k L L') : DelE b k (x :: L) (x :: L')
theorem DelE.perm {b : Nat} {k : Blk} {L L' : List (Nat × Blk)} (h : DelE b k L L') : L.Perm ((b, k) :: L') := by
  induction h with
  | here e L => subst e; exact .refl _
  | there h ih => exact (List.Perm.cons _ ih).trans (List.Perm.swap _ _ _)
inductive Cov : List (Nat × Blk) → List (Nat × Blk) → Prop where
  | nil (L : List (Nat × Blk)) : Cov [] L
  | cons {b : Nat} {k : Blk} {M L L' : List (Nat × Blk)} (h : DelE b k L L') (t : Cov M L') : Cov ((b, k) :: M) L
theorem Cov.perm {M L : List (Nat × Blk)} (h : Cov M L) : ∃ R, L.Perm (M ++ R) := by
  induction h with
  | nil L => exact ⟨L, .refl _⟩
  | cons h t ih => obtain ⟨R, hR⟩ := ih; exact ⟨R, h.perm.trans (List.Perm.cons _ hR)⟩
theorem Cov.ofPerm : ∀ {M L R : List (Nat × Blk)}, L.Perm (M ++ R) → Cov M L
  | [], L, R, _ => .nil L
  | (b, k) :: M, L, R, h => by
    have hm : (b, k) ∈ L := h.symm.subset (by simp)
    obtain ⟨A, B, rfl⟩ := List.append_of_mem hm
    have hd : ∀ (A B : List (Nat × Blk)), DelE b k (A ++ (b, k) :: B) (A ++ B) := fun A B => by
      induction A with
      | nil => exact .here rfl _
      | cons x A ih => exact .there ih
    refine .cons (hd A B) (Cov.ofPerm (R := R) ?_)
    exact (List.perm_cons _).1 (List.perm_middle.symm.trans h)
theorem HP.cov {w0 w : World} {O : List Nat} {L M : List (Nat × Blk)} (h : HP w0 w O L) (hc : Cov M L) : HP w0 w O M := by
  obtain ⟨R, hR⟩ := hc.perm
  exact (h.perm hR.symm).sub (List.sublist_append_left _ _)
/-- Block, room, and what stands behind; none: nil. -/
abbrev Gr := Option (Nat × Nat × List Value)
def gA : Gr → Option Addr
  | none => none
  | some (b, _, _) => some ⟨b, 0, none⟩
def gC : Gr → Nat
  | none => 0
  | some (_, cap, _) => cap
def gL (o : Gr) (n : Nat) (xs : List Value) (e : TypeId) : List (Nat × Blk) := match o with
  | none => []
  | some (b, cap, r) => [(b, .cells [(n, xs), (cap - n, r)] e)]
def GrOK (o : Gr) (n : Nat) : Prop := match o with
  | none => n = 0
  | some (_, cap, _) => n ≤ cap
theorem GrOK.cap {o : Gr} {n : Nat} (h : GrOK o n) : n ≤ gC o := by
  cases o with
  | none => exact Nat.le_of_eq h
  | some x => exact h

theorem sc {p : Prop} (h : p := by first | assumption | exact GrOK.cap (by assumption) | omega | (simp; done) | (simp [*]; done) | (simp; omega) | (simp [*]; omega) | decide) : p := h
/-- A part of the tracked blocks, taken out. -/
inductive DelL (M : List (Nat × Blk)) : List (Nat × Blk) → List (Nat × Blk) → Prop where
  | here (B : List (Nat × Blk)) : DelL M (M ++ B) B
  | last : DelL M M []
  | there {x : Nat × Blk} {L L' : List (Nat × Blk)} (h : DelL M L L') : DelL M (x :: L) (x :: L')
  | skip {N L L' : List (Nat × Blk)} (h : DelL M L L') : DelL M (N ++ L) (N ++ L')
  | left {N L L' : List (Nat × Blk)} (h : DelL M L L') : DelL M (L ++ N) (L' ++ N)
theorem DelL.perm {M L L' : List (Nat × Blk)} (h : DelL M L L') : L.Perm (M ++ L') := by
  induction h with
  | here B => exact .refl _
  | last => rw [List.append_nil]
  | there h ih => exact (List.Perm.cons _ ih).trans List.perm_middle.symm
  | skip h ih =>
    refine (List.Perm.append_left _ ih).trans ?_
    rw [← List.append_assoc, ← List.append_assoc]
    exact List.Perm.append_right _ List.perm_append_comm
  | left h ih => rw [← List.append_assoc]; exact List.Perm.append_right _ ih
theorem dell {M L L' : List (Nat × Blk)} (h : DelL M L L' := by (repeat apply DelL.there); first | exact .last | exact .here _ | exact .skip .last | exact .left (.last) | exact .left (.skip .last) | exact .left (.left (.last)) | exact .left (.left (.skip .last)) | exact .left (.left (.left (.last))) | exact .left (.left (.left (.skip .last))) | exact .left (.left (.left (.left (.last)))) | exact .left (.left (.left (.left (.skip .last)))) | exact .left (.left (.left (.left (.left (.last))))) | exact .left (.left (.left (.left (.left (.skip .last))))) | exact .left (.left (.left (.left (.left (.left (.last)))))) | exact .left (.left (.left (.left (.left (.left (.skip .last)))))) | solve_by_elim (maxDepth := 24) only [DelL.last, DelL.here, DelL.there, DelL.skip, DelL.left]) : DelL M L L' := h
theorem Cov.seg {N M L L' : List (Nat × Blk)} (h : DelL N L L') (t : Cov M L') : Cov (N ++ M) L := by
  obtain ⟨R, hR⟩ := t.perm
  have hp : L.Perm ((N ++ M) ++ R) := by rw [List.append_assoc]; exact h.perm.trans (List.Perm.append_left _ hR)
  exact Cov.ofPerm hp
theorem Cov.last {N L L' : List (Nat × Blk)} (h : DelL N L L') : Cov N L := by
  have := Cov.seg h (.nil L'); rwa [List.append_nil] at this
theorem cov {M L : List (Nat × Blk)} (h : Cov M L := by repeat (first | exact Cov.nil _ | refine Cov.cons (by repeat (first | exact DelE.here rfl _ | apply DelE.there)) ?_ | exact Cov.last dell | refine Cov.seg dell ?_)) : Cov M L := h

/-- The blocks bs are taken out. -/
theorem Dels.of {b : Nat} {k : Blk} {bs : List Nat} {L L1 L' : List (Nat × Blk)} (h : Del b k L L1) (t : Dels bs L1 L') : Dels (b :: bs) L L' := by
  obtain ⟨A, B, rfl, rfl⟩ := h.split; exact .cons t
theorem delx {b : Nat} {k : Blk} {L L' : List (Nat × Blk)} (h : Del b k L L' := by repeat (first | exact Del.here _ | apply Del.there)) : Del b k L L' := h
theorem dels {bs : List Nat} {L L' : List (Nat × Blk)} (h : Dels bs L L' := by first | exact Dels.nil _ | exact Dels.of delx (Dels.nil _) | exact Dels.of delx (Dels.of delx (Dels.nil _)) | exact Dels.of delx (Dels.of delx (Dels.of delx (Dels.nil _))) | exact Dels.of delx (Dels.of delx (Dels.of delx (Dels.of delx (Dels.nil _)))) | exact Dels.of delx (Dels.of delx (Dels.of delx (Dels.of delx (Dels.of delx (Dels.nil _))))) | exact Dels.of delx (Dels.of delx (Dels.of delx (Dels.of delx (Dels.of delx (Dels.of delx (Dels.nil _)))))) | exact Dels.of delx (Dels.of delx (Dels.of delx (Dels.of delx (Dels.of delx (Dels.of delx (Dels.of delx (Dels.nil _))))))) | exact Dels.of delx (Dels.of delx (Dels.of delx (Dels.of delx (Dels.of delx (Dels.of delx (Dels.of delx (Dels.of delx (Dels.nil _))))))))) : Dels bs L L' := h

section
variable {c : Cx} {Q : Post} {S S1 : Slots} {L L1 L' Lr : List (Nat × Blk)} {ops : Array Oper} {d : Option Tmp} {t : Tmp} {ty T T' : TypeId} {pos : String} {af : Array Edge} {rest : List Oper} {op : Op} {x y z : Operand} {v : Value}

/-! ### code -/
theorem sr {id : Nat} {l : List Oper} {y : Code} (h : WL c l.toArray (Exit.then (y.wp c.P Q) Q) l S L) : W c (.seq (.region id l.toArray false) y) Q S L := W.seq (W.region h)
theorem nq {y : Code} (h : W c y Q S L) : WL c ops (Exit.then (y.wp c.P Q) Q) [] S L := WL.nil (WQ.then h)
theorem nx {id : Nat} {y : Code} {l : List Oper} (h : WL c l.toArray (Exit.then (y.wp c.P Q) Q) l S L) : WL c ops (Exit.then ((Code.seq (.region id l.toArray false) y).wp c.P Q) Q) [] S L := nq (sr h)
theorem W.cov {x : Code} (M : List (Nat × Blk)) (h : W c x Q S M) (hc : Cov M L := by exact cov) : W c x Q S L := fun a w st => h a w ⟨st.sl, st.hp.cov hc⟩
theorem WQ.cov {e : Exit} (M : List (Nat × Blk)) (h : WQ c Q e S M) (hc : Cov M L := by exact cov) : WQ c Q e S L := fun a w st => h a w ⟨st.sl, st.hp.cov hc⟩
/-- A loop: what turns, what stays, and slices that grow. -/
theorem W.loopG {σ : Type} {x : Code} {K : Slots} (I : σ → Prop) (Sv : σ → Slots) (Lv : σ → List (Nat × Blk)) (LK : List (Nat × Blk)) (Gv : σ → List (Nat × Blk)) (μ : σ → Nat) (s0 : σ) (hS : Sv s0 ++ K = S) (hL : Cov (Lv s0 ++ (LK ++ Gv s0)) L) (h0 : I s0)
    (round : ∀ s, I s → W c x (Exit.then (Again c I (fun s => Sv s ++ K) (fun s => Lv s ++ (LK ++ Gv s)) μ s) Q) (Sv s ++ K) (Lv s ++ (LK ++ Gv s))) : W c (.loop x) Q S L := fun a w st =>
  W.loop (Q := Q) I (fun s => Sv s ++ K) (fun s => Lv s ++ (LK ++ Gv s)) μ s0 hS rfl h0 round a w ⟨st.sl, st.hp.cov hL⟩
theorem ag {σ : Type} {I : σ → Prop} {Sf : σ → Slots} {Lf : σ → List (Nat × Blk)} {μ : σ → Nat} {s : σ} (s' : σ) (ks : List Nat) (hI : I s') (hμ : μ s' < μ s) (hS : X.pick S ks = Sf s') (hL : Cov (Lf s') L) : WQ c (Exit.then (Again c I Sf Lf μ s) Q) .normal S L :=
  fun _ _ st => ⟨s', hI, hμ, st.sl.sub (hS ▸ pick_sub S ks), st.hp.cov hL⟩

/-! ### operations -/
theorem omv (k : WL c ops Q rest ((t, v) :: S) L) (hx : ev S x = some v := by exact rfl) (hd : Nat.blt t c.n = true := by exact rfl) : WL c ops Q (⟨some t, .move x, ty, pos, af, none⟩ :: rest) S L := WL.val hd (V_move hx) k
theorem oas (k : WL c ops Q rest ((t, v) :: S) L) (hx : ev S x = some v := by exact rfl) (hd : Nat.blt t c.n = true := by exact rfl) : WL c ops Q (⟨some t, .assign x, ty, pos, af, none⟩ :: rest) S L := WL.val hd (V_assign hx) k
theorem ov (hv : Val c S L op ty v) (k : WL c ops Q rest ((t, v) :: S) L) (hd : Nat.blt t c.n = true := by exact rfl) : WL c ops Q (⟨some t, op, ty, pos, af, none⟩ :: rest) S L := WL.val hd hv k
theorem oy {j : Nat} {b b' : Bool} (hg : guardOf ops S j = some (.bool b')) (hb : b' = b) (k : WL c ops Q (⟨d, op, ty, pos, af, none⟩ :: rest) S L) : WL c ops Q (⟨d, op, ty, pos, af, some (j, b)⟩ :: rest) S L := WL.yes hg hb k
theorem on {j : Nat} {b b' : Bool} (hg : guardOf ops S j = some (.bool b')) (hb : b' = !b) (k : WL c ops Q rest ((t, undef) :: S) L) (hd : Nat.blt t c.n = true := by exact rfl) : WL c ops Q (⟨some t, op, ty, pos, af, some (j, b)⟩ :: rest) S L := WL.no hd hg hb k

theorem vnil {p : Addr} (h : ev S x = some (.pointer (some p)) := by exact rfl) : Val c S L (.nilCheck x) ty (.pointer (some p)) := V_nil h
theorem vex {vs : Array Value} {i : Nat} (h : ev S x = some (.tuple vs) := by exact rfl) (hi : vs[i]? = some v := by exact rfl) : Val c S L (.extract x i) ty v := V_extract h hi
theorem vfa {f b o : Nat} (k n : Nat) (hf : fldB c.P T f k n = true := by kernel_rfl) (hx : ev S x = some (.pointer (some ⟨b, o, none⟩)) := by exact rfl) : Val c S L (.fieldAddr T x f) ty (.pointer (some ⟨b, o + k, none⟩)) := V_fieldAddr k n hf hx
/-- At a block's begin. -/
theorem vfa0 {f b : Nat} (k n : Nat) (hf : fldB c.P T f k n = true := by kernel_rfl) (hx : ev S x = some (.pointer (some ⟨b, 0, none⟩)) := by exact rfl) : Val c S L (.fieldAddr T x f) ty (.pointer (some ⟨b, k, none⟩)) := by
  have := V_fieldAddr (c := c) (L := L) (ty := ty) k n hf hx; rwa [Nat.zero_add] at this
theorem vld {b o : Nat} {cs : List Seg} (ht : scB c.P T = true := by kernel_rfl) (hx : ev S x = some (.pointer (some ⟨b, o, none⟩)) := by exact rfl) (hA : At c L b cs := by repeat (first | exact At.head | exact At.headR | exact AtW.at ‹_› (by first | (simp; done) | simp [*]) | apply At.tail)) (hv : cell1 cs o = some v := by rfl) : Val c S L (.load T x) ty v := V_load ht hx hA hv
theorem vlda {b o : Nat} {cs ds : List Seg} (n : Nat) (ht : agB c.P T n = true := by kernel_rfl) (hx : ev S x = some (.pointer (some ⟨b, o, none⟩)) := by exact rfl) (hA : At c L b cs := by repeat (first | exact At.head | exact At.headR | exact AtW.at ‹_› (by first | (simp; done) | simp [*]) | apply At.tail)) (hv : subS cs o n = some ds := by rfl) : Val c S L (.load T x) ty (AG ds) := V_loadA n ht hx hA hv
/-- An integer of a row that begins its block. -/
theorem vldI {b q n : Nat} {k : IntKind} {l : List Int} {r : List Seg} (ht : scB c.P T = true := by kernel_rfl) (hx : ev S x = some (.pointer (some ⟨b, q, none⟩)) := by exact rfl) (hA : At c L b ((n, iv k l) :: r) := by repeat (first | exact At.head | exact At.headR | exact AtW.at ‹_› (by first | (simp; done) | simp [*]) | apply At.tail)) (hj : q < l.length := by exact sc) : Val c S L (.load T x) ty (.int k (l.getD q 0)) := V_loadIv q ht hx hA rfl hj
/-- One of a slice that came in. -/
theorem vldS {b o q n : Nat} {k : IntKind} {l : List Int} (j : Nat) (hs : SrW c.w0 1 (some ⟨b, o, none⟩) n (iv k l) := by assumption) (hO : b ∉ c.O := by simp) (ht : scB c.P T = true := by kernel_rfl) (hx : ev S x = some (.pointer (some ⟨b, q, none⟩)) := by exact rfl) (hq : q = o + j := by first | rfl | omega) (hj : j < l.length := by exact sc) : Val c S L (.load T x) ty (.int k (l.getD j 0)) :=
  V_loadSrI j (SrW.old hs (by intro b' o' e; injection e with e; injection e with e1 e2; subst e1; exact hO)) ht hx hq hj
theorem viS1 {i : Operand} {b o len cap j : Nat} {k : IntKind} (ht : slB c.P T 1 = true := by kernel_rfl) (hx : ev S x = some (.slice (some ⟨b, o, none⟩) len cap) := by exact rfl) (hi : ev S i = some (.int k (j : Int)) := by exact rfl) (hj : j < len := by exact sc) : Val c S L (.indexAddr T x i) ty (.pointer (some ⟨b, o + j, none⟩)) := by
  have := V_indexAddrS (c := c) (L := L) (ty := ty) 1 ht hx hi (by omega) (by omega); simpa using this
theorem viS0 {i : Operand} {b len cap j : Nat} {k : IntKind} (ht : slB c.P T 1 = true := by kernel_rfl) (hx : ev S x = some (.slice (some ⟨b, 0, none⟩) len cap) := by exact rfl) (hi : ev S i = some (.int k (j : Int)) := by exact rfl) (hj : j < len := by exact sc) : Val c S L (.indexAddr T x i) ty (.pointer (some ⟨b, j, none⟩)) := by
  have := V_indexAddrS (c := c) (L := L) (ty := ty) 1 ht hx hi (by omega) (by omega); simpa using this
theorem viA0 {i : Operand} {b j : Nat} {k : IntKind} (n : Nat) (ht : arB c.P T n 1 = true := by kernel_rfl) (hx : ev S x = some (.pointer (some ⟨b, 0, none⟩)) := by exact rfl) (hi : ev S i = some (.int k (j : Int)) := by exact rfl) (hj : j < n := by exact sc) : Val c S L (.indexAddr T x i) ty (.pointer (some ⟨b, j, none⟩)) := by
  have := V_indexAddrA (c := c) (L := L) (ty := ty) n 1 ht hx hi (by omega) (by omega); simpa using this
theorem vlenS {p : Option Addr} {n cap : Nat} {xs : Array Operand} {t : TypeId} (ht : sliceT c.P t = true := by kernel_rfl) (ha : evs S xs.toList = some [.slice p n cap] := by exact rfl) : Val c S L (.call ⟨.builtin .len, xs, #[t]⟩) ty (.int .i64 n) := V_lenS ht ha
theorem vcv {k : IntKind} {p : Int} (k' : IntKind) (hx : ev S x = some (.int k p) := by exact rfl) (ht : inB' c.P T' k' = true := by kernel_rfl) (hs : (c.P.underlying T).isSome = true := by kernel_rfl) : Val c S L (.convert T T' x) ty (.int k' (k'.wrap p)) := V_conv hx ht hs
/-- Within the kind's bounds. -/
def inK : IntKind → Int → Prop
  | .i64, p => -9223372036854775808 ≤ p ∧ p ≤ 9223372036854775807
  | .u64, p => 0 ≤ p ∧ p ≤ 18446744073709551615
  | .u32, p => 0 ≤ p ∧ p ≤ 4294967295
  | .u8, p => 0 ≤ p ∧ p ≤ 255
  | k, p => k.wrap p = p
theorem inK.wrap {k : IntKind} {p : Int} (h : inK k p) : k.wrap p = p := by
  cases k <;> first | exact IntWalk.i64_in _ h | exact IntWalk.u64_in _ h | exact h | (unfold inK at h; first | (rw [IntKind.wrap_u8]; omega) | (rw [IntKind.wrap_u32]; omega))
theorem vcvN {k : IntKind} {p : Int} (k' : IntKind) (hx : ev S x = some (.int k p) := by exact rfl) (h : inK k' p := by simp only [inK]; omega) (ht : inB' c.P T' k' = true := by kernel_rfl) (hs : (c.P.underlying T).isSome = true := by kernel_rfl) : Val c S L (.convert T T' x) ty (.int k' p) := V_convN hx ht hs h.wrap
theorem vaddN {k : IntKind} {p q : Int} (hx : ev S x = some (.int k p) := by exact rfl) (hy : ev S y = some (.int k q) := by exact rfl) (h : inK k (p + q) := by simp only [inK]; omega) : Val c S L (.binOp .add T x y T') ty (.int k (p + q)) := by
  have := V_add (c := c) (L := L) (T := T) (T' := T') (ty := ty) hx hy; rwa [h.wrap] at this
theorem vsubN {k : IntKind} {p q : Int} (hx : ev S x = some (.int k p) := by exact rfl) (hy : ev S y = some (.int k q) := by exact rfl) (h : inK k (p - q) := by simp only [inK]; omega) : Val c S L (.binOp .sub T x y T') ty (.int k (p - q)) := by
  have := V_sub (c := c) (L := L) (T := T) (T' := T') (ty := ty) hx hy; rwa [h.wrap] at this
theorem vmulN {k : IntKind} {p q : Int} (hx : ev S x = some (.int k p) := by exact rfl) (hy : ev S y = some (.int k q) := by exact rfl) (h : inK k (p * q) := by simp only [inK]; omega) : Val c S L (.binOp .mul T x y T') ty (.int k (p * q)) := by
  have := V_mul (c := c) (L := L) (T := T) (T' := T') (ty := ty) hx hy; rwa [h.wrap] at this
theorem vadd {k : IntKind} {p q : Int} (hx : ev S x = some (.int k p) := by exact rfl) (hy : ev S y = some (.int k q) := by exact rfl) : Val c S L (.binOp .add T x y T') ty (.int k (k.wrap (p + q))) := V_add hx hy
theorem vsub {k : IntKind} {p q : Int} (hx : ev S x = some (.int k p) := by exact rfl) (hy : ev S y = some (.int k q) := by exact rfl) : Val c S L (.binOp .sub T x y T') ty (.int k (k.wrap (p - q))) := V_sub hx hy
theorem vmul {k : IntKind} {p q : Int} (hx : ev S x = some (.int k p) := by exact rfl) (hy : ev S y = some (.int k q) := by exact rfl) : Val c S L (.binOp .mul T x y T') ty (.int k (k.wrap (p * q))) := V_mul hx hy
theorem vquo {p q : Int} (hx : ev S x = some (.int .i64 p) := by exact rfl) (hy : ev S y = some (.int .i64 q) := by exact rfl) (h0 : 0 ≤ p := by omega) (h1 : 1 ≤ q := by omega) (h2 : p ≤ 9223372036854775807 := by omega) : Val c S L (.binOp .quo T x y T') ty (.int .i64 (p / q)) := V_quoN hx hy h0 h1 h2
theorem vquoU {p q : Int} (hx : ev S x = some (.int .u64 p) := by exact rfl) (hy : ev S y = some (.int .u64 q) := by exact rfl) (h0 : 0 ≤ p := by omega) (h1 : 1 ≤ q := by omega) (h2 : p ≤ 18446744073709551615 := by omega) : Val c S L (.binOp .quo T x y T') ty (.int .u64 (p / q)) := by
  have := V_quo (c := c) (L := L) (T := T) (T' := T') (ty := ty) hx hy (by omega)
  rw [Int.tdiv_eq_ediv_of_nonneg h0] at this
  have b : 0 ≤ p / q := Int.ediv_nonneg h0 (by omega)
  have b2 : p / q ≤ p := Int.ediv_le_self _ h0
  rwa [show IntKind.u64.wrap (p / q) = p / q from IntWalk.u64_in _ ⟨by omega, by omega⟩] at this
/-- Any other plain operator: its own law. -/
theorem v2 {p q : Value} (f : ev S x = some p → ev S y = some q → Val c S L op ty v) (hx : ev S x = some p := by exact rfl) (hy : ev S y = some q := by exact rfl) : Val c S L op ty v := f hx hy
theorem vnot {b : Bool} (hx : ev S x = some (.bool b) := by exact rfl) : Val c S L (.unOp .not T x) ty (.bool (!b)) := V_not hx
theorem vsl {A : Option Addr} {len cap l h : Nat} {lo hi : Option Operand} (s : Nat) (hx : ev S x = some (.slice A len cap) := by exact rfl) (hlo : Lo S lo l := by first | exact .no | exact .yes rfl rfl) (hhi : Hi S hi len h := by first | exact .no | exact .yes rfl rfl) (h1 : l ≤ h := by omega) (h2 : h ≤ cap := by omega) (ht : slB c.P T s = true := by kernel_rfl) :
    Val c S L (.slice T x lo hi none) ty (.slice (cutA A l cap s) (h - l) (cap - l)) := V_slice ht hx hlo hhi h1 h2
theorem vsl0 {A : Option Addr} {len cap h : Nat} {hi : Option Operand} (s : Nat) (hx : ev S x = some (.slice A len cap) := by exact rfl) (hhi : Hi S hi len h := by first | exact .no | exact .yes rfl rfl) (h2 : h ≤ cap := by omega) (ht : slB c.P T s = true := by kernel_rfl) :
    Val c S L (.slice T x none hi none) ty (.slice A h cap) := V_slice0 ht hx hhi h2
theorem vslF {b o len : Nat} (s n : Nat) (ht : arB c.P T len s = true := by kernel_rfl) (hx : ev S x = some (.pointer (some ⟨b, o, none⟩)) := by exact rfl) (hn : n = len := by rfl) : Val c S L (.slice T x none none none) ty (.slice (some ⟨b, o, none⟩) len len) := by
  have := V_sliceP (c := c) (L := L) (ty := ty) ht hx .no .no (Nat.zero_le _) (Nat.le_refl _)
  rwa [cutA_zero, Nat.sub_zero] at this

/-! ### new blocks, stores -/
theorem zi {t : TypeId} {zs : List Seg} (h : ((c.P.info? t).bind (·.zero)).map (·.cells) = some (flat zs).toArray := by kernel_rfl) (hf : Fit zs := by repeat (first | exact Fit.nil | refine Fit.mk (by first | rfl | (simp; done)) ?_)) : zeroIs c.P t zs := ⟨h, hf⟩
theorem oal {T : TypeId} (zs : List Seg) (k : ∀ b, WL c ops Q rest ((t, .pointer (some ⟨b, 0, none⟩)) :: S) ((b, .cells zs T) :: L)) (hz : zeroIs c.P T zs := by exact zi) (hd : Nat.blt t c.n = true := by exact rfl) : WL c ops Q (⟨some t, .alloc T, ty, pos, af, none⟩ :: rest) S L := WL.new hd (E_alloc zs hz) k
theorem obx {T : TypeId} (k : ∀ b, WL c ops Q rest ((t, .pointer (some ⟨b, 0, none⟩)) :: S) ((b, .cells [(1, [v])] T) :: L)) (hx : ev S x = some v := by exact rfl) (h1 : one v = true := by rfl) (hd : Nat.blt t c.n = true := by exact rfl) : WL c ops Q (⟨some t, .box T x, ty, pos, af, none⟩ :: rest) S L := WL.new hd (E_box1 hx h1) k
theorem obxa {T : TypeId} {ds : List Seg} (k : ∀ b, WL c ops Q rest ((t, .pointer (some ⟨b, 0, none⟩)) :: S) ((b, .cells ds T) :: L)) (hx : ev S x = some (AG ds) := by exact rfl) (hf : Fit ds := by exact fit) (hd : Nat.blt t c.n = true := by exact rfl) : WL c ops Q (⟨some t, .box T x, ty, pos, af, none⟩ :: rest) S L := WL.new hd (E_boxA hx hf) k
theorem ost {b o : Nat} {cs cs' : List Seg} {t : TypeId} (k : WL c ops Q rest S L') (ht : szB c.P T 1 = true := by kernel_rfl) (hx : ev S x = some (.pointer (some ⟨b, o, none⟩)) := by exact rfl) (hy : ev S y = some v := by exact rfl) (h1 : one v = true := by rfl)
    (hu : Upd b (.cells cs' t) L (.cells cs t) L' := by repeat (first | exact Upd.here _ _ | apply Upd.there)) (hs : set1 cs o v = some cs' := by rfl) : WL c ops Q (⟨none, .store T x y, ty, pos, af, none⟩ :: rest) S L := WL.store ht hx hy h1 hu hs k
theorem osta {b o : Nat} {cs cs' ds : List Seg} {t : TypeId} (n : Nat) (k : WL c ops Q rest S L') (ht : szB c.P T n = true := by kernel_rfl) (hx : ev S x = some (.pointer (some ⟨b, o, none⟩)) := by exact rfl) (hy : ev S y = some (AG ds) := by exact rfl) (hd : Fit ds := by exact fit)
    (hn : (flat ds).length = n := by exact fln) (h1 : ∀ v ∈ flat ds, one v = true := by repeat (first | exact ones_nil | refine ones_cons (by first | exact iv_one | (simp [Go.X.one]; done)) ?_))
    (hu : Upd b (.cells cs' t) L (.cells cs t) L' := by repeat (first | exact Upd.here _ _ | apply Upd.there)) (hs : putAt cs o n ds = some cs' := by rfl) : WL c ops Q (⟨none, .store T x y, ty, pos, af, none⟩ :: rest) S L := WL.storeA n ht hx hy hn hd h1 hu hs k
theorem ostI {b q n : Nat} {k : IntKind} {l : List Int} {r : List Seg} {p : Int} {t : TypeId} (K : WL c ops Q rest S L') (ht : szB c.P T 1 = true := by kernel_rfl) (hx : ev S x = some (.pointer (some ⟨b, q, none⟩)) := by exact rfl) (hy : ev S y = some (.int k p) := by exact rfl)
    (hu : Upd b (.cells ((n, iv k (l.set q p)) :: r) t) L (.cells ((n, iv k l) :: r) t) L' := by repeat (first | exact Upd.here _ _ | apply Upd.there)) (hj : q < l.length := by exact sc) : WL c ops Q (⟨none, .store T x y, ty, pos, af, none⟩ :: rest) S L := WL.storeIv q ht hx hy hu rfl hj K

/-! ### calls -/
theorem cp {f : FuncId} {xs : Array Operand} {ats : Array TypeId} {vs : List Value} (ha : evs S xs.toList = some vs) (hc : ∀ w, HP c.w0 w c.O L → Calls c.P f vs.toArray w fun e w' => e = .returned v ∧ HP w w' [] []) (k : WL c ops Q rest (putS d v S) L)
    (hf : fnB c.P f = true := by kernel_rfl) (hd : inB c.n d = true := by exact rfl) : WL c ops Q (⟨d, .call ⟨.value (.func f), xs, ats⟩, ty, pos, af, none⟩ :: rest) S L := WL.pure v hd hf ha hc k
theorem cm {f : FuncId} {xs : Array Operand} {ats : Array TypeId} {vs : List Value} {b : Nat} {k1 k2 : Blk} (ha : evs S xs.toList = some vs) (hc : ∀ w, HP c.w0 w c.O L → Calls c.P f vs.toArray w fun e w' => e = .returned v ∧ HP w w' [b] [(b, k2)]) (k : WL c ops Q rest (putS d v S) L')
    (hu : Upd b k2 L k1 L' := by repeat (first | exact Upd.here _ _ | apply Upd.there)) (hf : fnB c.P f = true := by kernel_rfl) (hd : inB c.n d = true := by exact rfl) : WL c ops Q (⟨d, .call ⟨.value (.func f), xs, ats⟩, ty, pos, af, none⟩ :: rest) S L := WL.mod v hd hf ha hu hc k
/-- What comes is of the prover's own making. -/
theorem cg {ι : Type} {f : FuncId} {xs : Array Operand} {ats : Array TypeId} {vs : List Value} {bs : List Nat} {V : ι → Value} {M : ι → List (Nat × Blk)} {A : ι → Prop} (ha : evs S xs.toList = some vs)
    (hc : ∀ w, HP c.w0 w c.O L → Calls c.P f vs.toArray w fun e w' => ∃ r, A r ∧ e = .returned (V r) ∧ HP w w' bs (M r)) (k : ∀ r, A r → WL c ops Q rest (putS d (V r) S) (M r ++ Lr))
    (hdel : Dels bs L Lr := by exact dels) (hf : fnB c.P f = true := by kernel_rfl) (hd : inB c.n d = true := by exact rfl) : WL c ops Q (⟨d, .call ⟨.value (.func f), xs, ats⟩, ty, pos, af, none⟩ :: rest) S L := WL.call bs V M A hd hf ha hdel hc k
end
end Go.X

/- Slices that grow: nil, or a block of their own. -/
namespace Go.X
open Go.RowKit

section
variable {w0 w : World} {O : List Nat} {L L' : List (Nat × Blk)} {b n r o m s cap l h : Nat} {xs rs : List Value} {t e : TypeId} {A : Option Addr} {k : IntKind} {is : List Int}
theorem HP.sgr {o : Gr} (hp : HP w0 w O L) (hd : DelL (gL o n xs e) L L') (hn : xs.length = n) (ho : GrOK o n) (h1 : ∀ v ∈ xs, one v = true) : SrW w 1 (gA o) n xs := by
  have hp2 := hp.perm hd.perm.symm
  subst hn
  cases o with
  | none => have : xs = [] := List.length_eq_zero_iff.1 ho; subst this; exact SrW.nil
  | some x => exact hp2.sown (b := x.1) (List.mem_append_left _ List.mem_cons_self) h1
theorem hat {cs : List Seg} (h : AtW w b cs := by first | assumption | exact AtW.step (by assumption) (by assumption) (by first | (simp; done) | simp [*]) | exact HP.atw (by assumption) (by repeat (first | exact List.Mem.head _ | apply List.Mem.tail)) | exact HP.atr (by assumption) (by repeat (first | exact List.Mem.head _ | apply List.Mem.tail))) : AtW w b cs := h
theorem HP.ssub {cs : List Seg} (hp : HP w0 w O L) (hm : (b, Blk.cells cs t) ∈ L) (hs : subS cs o n = some [(n, xs)]) (h1 : ∀ v ∈ xs, one v = true) : SrW w 1 (some ⟨b, o, none⟩) n xs := by
  have hw := hp.atw hm
  obtain ⟨e, f, hl⟩ := subS_flat hw.1 hs
  exact hw.cells (by rw [Nat.mul_one, ← e]; simp [flat]) (by omega) h1
/-- Found by itself: a slice's integers. -/
theorem sw1 (h : SrW w 1 A n xs := by first | assumption | exact HP.sown (by assumption) (by repeat (first | exact List.Mem.head _ | apply List.Mem.tail)) (by first | exact iv_one | (simp [Go.X.one]; done)) | exact HP.sall (by assumption) (by repeat (first | exact List.Mem.head _ | apply List.Mem.tail)) (by first | exact iv_one | (simp [Go.X.one]; done)) | exact HP.ssub (by assumption) (by repeat (first | exact List.Mem.head _ | apply List.Mem.tail)) (by rfl) (by first | exact iv_one | (simp [Go.X.one]; done)) | exact HP.sownR (by assumption) (by repeat (first | exact List.Mem.head _ | apply List.Mem.tail)) (by first | exact iv_one | (simp [Go.X.one]; done)) | exact HP.sold (by assumption) (by assumption) (by simp [*]) | exact HP.sgr (by assumption) dell sc (by assumption) (by first | exact iv_one | (simp [Go.X.one]; done)) | exact SrW.nilI) : SrW w 1 A n xs := h
theorem sw (h : SrW w 1 A n xs := by first | exact sw1 | exact SrW.dropI sw1 (by omega) (by omega) | exact SrW.cutI sw1 (by omega) (by omega) (by omega) | exact SrW.takeI sw1 (by omega) | exact SrW.cutI (SrW.takeI sw1 (by omega)) (by omega) (by omega) (by omega) | exact SrW.cutI (SrW.cutI sw1 (by omega) (by omega) (by omega)) (by omega) (by omega) (by omega)) : SrW w 1 A n xs := h
end

section
variable {c : Cx} {Q : Post} {S S1 : Slots} {L L1 L' Lr : List (Nat × Blk)} {ops : Array Oper} {d : Option Tmp} {t : Tmp} {ty T T' : TypeId} {pos : String} {af : Array Edge} {rest : List Oper} {op : Op} {x y z : Operand} {v : Value}

theorem Eff.perm {R : Value → List (Nat × Blk) → Prop} (h : Eff c S L' op ty R) (hp : L.Perm L') : Eff c S L op ty R := fun a w st => h a w ⟨st.sl, st.hp.perm hp.symm⟩
theorem Eff.post {R R' : Value → List (Nat × Blk) → Prop} (h : Eff c S L op ty R) (hr : ∀ v M, R v M → ∃ M', M.Perm M' ∧ R' v M') : Eff c S L op ty R' := fun a w st => by
  obtain ⟨v, w', M, h1, h2, h3⟩ := h a w st
  obtain ⟨M', h4, h5⟩ := hr v M h3
  exact ⟨v, w', M', h1, h2.perm h4.symm, h5⟩
theorem E_appG {o : Gr} {n m cap2 : Nat} {xs ys : List Value} {A : Option Addr} (e by' : Nat) (ht : slE c.P T e by' = true) (hx : ev S x = some (.slice (gA o) n (gC o))) (hy : ev S y = some (.slice A m cap2)) (hn : xs.length = n) (ho : GrOK o n) (hD : DelL (gL o n xs e) L Lr)
    (hs : Sr c L 1 A m ys) (hb : (n + m) * by' ≤ 140737488355328) (hl : n + m ≤ 9223372036854775807) :
    Eff c S L (.call ⟨.builtin .append, #[x, y], #[T, T]⟩) ty fun v M => ∃ o', GrOK o' (n + m) ∧ (0 < n + m → o' ≠ none) ∧ v = .slice (gA o') (n + m) (gC o') ∧ M = Lr ++ gL o' (n + m) (xs ++ ys) e := by
  have hpm := hD.perm
  have hyl : ∀ a w, St c S L a w → ys.length = m := fun a w st => by have := (hs w st.hp).1; omega
  cases o with
  | none =>
    have hx0 : xs = [] := List.length_eq_zero_iff.1 (by rw [hn]; exact ho)
    subst hx0
    have hn0 : n = 0 := by simpa using hn.symm
    subst hn0
    by_cases hm : m = 0
    · subst hm
      intro a w st
      have h0 := V_append0 (c := c) (L := L) (ty := ty) e by' ht hx hy (Nat.zero_le _) a w st
      have hys : ys = [] := List.length_eq_zero_iff.1 (hyl a w st)
      subst hys
      exact ⟨_, w, _, .inl h0, st.hp.perm hpm.symm, none, rfl, fun h => by omega, rfl, by simp [gL]⟩
    · intro a w st
      have hys := hyl a w st
      refine (Eff.post (E_appendN (c := c) (S := S) (L := L) (ty := ty) e by' ht hx hy hs (by omega) (by simpa using hb) (by omega)) fun v M ⟨b', cap', rs', h1, h2, h3⟩ => ?_) a w st
      subst h2; subst h3
      refine ⟨Lr ++ gL (some (b', cap', rs')) (0 + m) ([] ++ ys) e, ?_, some (b', cap', rs'), by simpa [GrOK] using h1, by simp, by simp [gA, gC], rfl⟩
      simp only [gL, List.nil_append, Nat.zero_add]
      exact (List.Perm.cons _ hpm).trans (List.perm_append_comm (l₁ := [(b', Blk.cells [(m, ys), (cap' - m, rs')] e)]) (l₂ := Lr))
  | some q =>
    obtain ⟨b, cap, rs⟩ := q
    subst hn
    intro a w st
    have hys := hyl a w st
    refine (Eff.perm (Eff.post (E_append (c := c) (S := S) (Lr := Lr) (ty := ty) e by' ht hx hy ho (.here _) (fun w hp => hs w (hp.perm hpm)) hb hl) fun v M ⟨b', cap', rs', h1, h2, h3⟩ => ?_) hpm) a w st
    subst h2; subst h3
    refine ⟨Lr ++ gL (some (b', cap', rs')) (xs.length + m) (xs ++ ys) e, ?_, some (b', cap', rs'), h1, by simp, rfl, rfl⟩
    simp only [gL]
    exact (List.perm_append_comm (l₁ := [(b', Blk.cells [(xs.length + m, xs ++ ys), (cap' - (xs.length + m), rs')] e)]) (l₂ := Lr))
/-- Grown by others' integers. -/
theorem oapG {o : Gr} {n m cap2 : Nat} {k : IntKind} {l l2 : List Int} {A : Option Addr} (e by' : Nat)
    (K : ∀ o', GrOK o' (n + m) → (0 < n + m → o' ≠ none) → WL c ops Q rest ((t, .slice (gA o') (n + m) (gC o')) :: S) (Lr ++ gL o' (n + m) (iv k (l ++ l2)) e))
    (ht : slE c.P T e by' = true := by kernel_rfl) (hx : ev S x = some (.slice (gA o) n (gC o)) := by exact rfl) (hy : ev S y = some (.slice A m cap2) := by exact rfl) (hD : DelL (gL o n (iv k l) e) L Lr := by exact dell) (hn : l.length = n := by exact sc) (ho : GrOK o n := by exact sc)
    (hs : Sr c L 1 A m (iv k l2) := by intro w hp; exact sw) (hb : (n + m) * by' ≤ 140737488355328 := by omega) (hl : n + m ≤ 9223372036854775807 := by omega) (hd : Nat.blt t c.n = true := by exact rfl) :
    WL c ops Q (⟨some t, .call ⟨.builtin .append, #[x, y], #[T, T]⟩, ty, pos, af, none⟩ :: rest) S L :=
  WL.eff (d := some t) hd (E_appG e by' ht hx hy (by rw [iv_len, hn]) ho hD hs hb hl) fun v M ⟨o', h1, h2, hv, hM⟩ => by subst hv; subst hM; rw [iv_app]; exact K o' h1 h2
/-- An own block grown by others' integers. -/
theorem oap {n m cap cap2 b : Nat} {k : IntKind} {l l2 : List Int} {rs : List Value} {A : Option Addr} (e by' : Nat)
    (K : ∀ b' cap' rs', n + m ≤ cap' → WL c ops Q rest ((t, .slice (some ⟨b', 0, none⟩) (n + m) cap') :: S) ((b', .cells [(n + m, iv k (l ++ l2)), (cap' - (n + m), rs')] e) :: Lr))
    (ht : slE c.P T e by' = true := by kernel_rfl) (hx : ev S x = some (.slice (some ⟨b, 0, none⟩) n cap) := by exact rfl) (hy : ev S y = some (.slice A m cap2) := by exact rfl) (hD : Del b (.cells [(n, iv k l), (cap - n, rs)] e) L Lr := by repeat (first | exact Del.here _ | apply Del.there)) (hn : n ≤ cap := by omega)
    (hs : Sr c L 1 A m (iv k l2) := by intro w hp; exact sw) (hb : (n + m) * by' ≤ 140737488355328 := by omega) (hl : n + m ≤ 9223372036854775807 := by omega) (hd : Nat.blt t c.n = true := by exact rfl) :
    WL c ops Q (⟨some t, .call ⟨.builtin .append, #[x, y], #[T, T]⟩, ty, pos, af, none⟩ :: rest) S L :=
  WL.append e by' hd ht hx hy hn hD hs hb hl (by rw [iv_app]; exact K)
/-- A slice of integers, built. -/
theorem obsI {n : Nat} {k : IntKind} {vs : List Value} {parts : Array (Nat × Operand)} (e by' : Nat) (l : List Int) (K : ∀ b, WL c ops Q rest ((t, .slice (some ⟨b, 0, none⟩) n n) :: S) ((b, .cells [(n, iv k l), (n - n, [])] e) :: L))
    (ht : slE c.P T e by' = true := by kernel_rfl) (hi : parts.toList.map (·.1) = List.range' 0 n := by exact rfl) (hv : evs S (parts.toList.map (·.2)) = some vs := by exact rfl) (h1 : vs = iv k l := by rfl) (hn : n ≤ 16777216 := by decide) (hd : Nat.blt t c.n = true := by exact rfl) :
    WL c ops Q (⟨some t, .buildSlice T n parts, ty, pos, af, none⟩ :: rest) S L := by
  subst h1; exact WL.bslice e by' hd ht hi hv iv_one hn K
theorem obs {n : Nat} {vs : List Value} {parts : Array (Nat × Operand)} (e by' : Nat) (K : ∀ b, WL c ops Q rest ((t, .slice (some ⟨b, 0, none⟩) n n) :: S) ((b, .cells [(n, vs), (n - n, [])] e) :: L))
    (ht : slE c.P T e by' = true := by kernel_rfl) (hi : parts.toList.map (·.1) = List.range' 0 n := by exact rfl) (hv : evs S (parts.toList.map (·.2)) = some vs := by exact rfl) (h1 : ∀ v ∈ vs, one v = true := by simp [Go.X.one]) (hn : n ≤ 16777216 := by decide) (hd : Nat.blt t c.n = true := by exact rfl) :
    WL c ops Q (⟨some t, .buildSlice T n parts, ty, pos, af, none⟩ :: rest) S L := WL.bslice e by' hd ht hi hv h1 hn K
/-- Integers, made: all are 0. -/
theorem omkI {n : Nat} {k k1 k2 : IntKind} {p q : Int} (e by' : Nat) (K : ∀ b, WL c ops Q rest ((t, .slice (some ⟨b, 0, none⟩) n n) :: S) ((b, .cells [(n, iv k (List.replicate n 0)), (n - n, [])] e) :: L))
    (hx : ev S x = some (.int k1 p) := by exact rfl) (hy : ev S y = some (.int k2 q) := by exact rfl) (hp : p = (n : Int) := by first | rfl | omega) (hq : q = (n : Int) := by first | rfl | omega) (ht : slE c.P T e by' = true := by kernel_rfl) (hz : zeroIs c.P e [(1, [.int k 0])] := by exact zi) (hb : n * by' ≤ 281474976710656 := by omega) (hl : n ≤ 9223372036854775807 := by omega) (hd : Nat.blt t c.n = true := by exact rfl) :
    WL c ops Q (⟨some t, .makeSlice T x y, ty, pos, af, none⟩ :: rest) S L := WL.make e by' (.int k 0) hd ht hz hx hy hp hq hb hl (by rw [iv_rep]; exact K)
/-- A call that yields a slice that grew. -/
theorem cgG {f : FuncId} {xs : Array Operand} {ats : Array TypeId} {vs : List Value} {V : Gr → Value} {B : Gr → Prop} {ys : Gr → List (Nat × Blk)} (ha : evs S xs.toList = some vs)
    (hc : ∀ w, HP c.w0 w c.O L → Calls c.P f vs.toArray w fun e' w' => ∃ o, B o ∧ e' = .returned (V o) ∧ HP w w' [] (ys o)) (k : ∀ o, B o → WL c ops Q rest (putS d (V o) S) (L ++ ys o))
    (hf : fnB c.P f = true := by kernel_rfl) (hd : inB c.n d = true := by exact rfl) : WL c ops Q (⟨d, .call ⟨.value (.func f), xs, ats⟩, ty, pos, af, none⟩ :: rest) S L :=
  WL.cal hd (C_fn (R := fun v M => ∃ o, B o ∧ v = V o ∧ M = L ++ ys o) hf ha fun w hp => (hc w hp).mono fun _ _ ⟨o, h1, h2, h3⟩ => ⟨_, _, h2, (hp.trans0 h3).perm List.perm_append_comm, o, h1, rfl, rfl⟩)
    fun v M ⟨o, h1, h2, h3⟩ => by subst h2; subst h3; exact k o h1
end
end Go.X

/- Short forms for regions that draw their order. -/
namespace Go.X
open Go.RowKit
attribute [simp] iv_len
theorem SrW.hasN {w : World} {A : Option Addr} {n : Nat} {xs : List Value} (h : SrW w 1 A n xs) (h0 : 0 < n) : ∃ b o, A = some ⟨b, o, none⟩ := h.has (by have := h.1; omega)
def Gd (ops : Array Oper) (S : Slots) : Option (Nat × Bool) → Prop
  | none => True
  | some (j, b) => guardOf ops S j = some (.bool b)
theorem gy {ops : Array Oper} {S : Slots} {j : Nat} {b b' : Bool} (hg : guardOf ops S j = some (.bool b')) (hb : b' = b) : Gd ops S (some (j, b)) := by subst hb; exact hg
section
variable {c : Cx} {Q : Post} {S S1 : Slots} {L L1 L' Lr Lx : List (Nat × Blk)} {ops : Array Oper} {d : Option Tmp} {t : Tmp} {ty T T' : TypeId} {pos : String} {af : Array Edge} {op : Op} {x y z : Operand} {v : Value} {g : Option (Nat × Bool)} {i j : Nat} {p : Plan}
theorem Gd.want (hg : Gd ops S g) {a : Act} {n : Nat} (h : Sl n a S) : Region.wanted (⟨d, op, ty, pos, af, g⟩ : Oper) (yielded ops a.tmps) = true := by
  cases g with
  | none => simp [Region.wanted]
  | some q =>
    obtain ⟨j, b⟩ := q
    have := yielded_of h hg
    cases b <;> simp [Region.wanted, this]
theorem WO.calG {R : Value → List (Nat × Blk) → Prop} (ho : ops[i]? = some ⟨d, op, ty, pos, af, g⟩) (hg : Gd ops S g) (hd : inB c.n d = true) (hLr : Lr.Sublist L) (hv : Cal c S L op ty R)
    (h : ∀ v L', R v L' → (∀ p ∈ Lr, p ∈ L') ∧ WD c ops Q Lr p (putS d v S) L') : WO c ops Q Lr i p S L := WO.cal' ho (fun _ _ st => hg.want st.sl) hd hLr hv h
theorem WO.effG {R : Value → List (Nat × Blk) → Prop} (ho : ops[i]? = some ⟨d, op, ty, pos, af, g⟩) (hg : Gd ops S g) (hd : inB c.n d = true) (hLr : Lr.Sublist L) (hv : Eff c S L op ty R)
    (h : ∀ v L', R v L' → (∀ p ∈ Lr, p ∈ L') ∧ WD c ops Q Lr p (putS d v S) L') : WO c ops Q Lr i p S L := fun a w st => by
  obtain ⟨v, w', L', hr, hp, r⟩ := hv a w st
  rw [← ex_eq a.eval d op ty pos af g] at hr
  obtain ⟨h1, h2⟩ := h v L' r
  have hn : (Lr.map (·.1)).Nodup := st.hp.nodup.sublist (hLr.map _)
  unfold wpOp
  simp only [ho]
  rw [if_pos (hg.want st.sl)]
  refine .inl ?_
  unfold Oper.wp
  rcases hr with hr | ⟨hr, rfl⟩
  · rw [hr]; exact ⟨sub_of_mem hp hn h1, h2 _ _ ⟨st.sl.putS hd v, hp⟩⟩
  · rw [hr]; exact ⟨sub_of_mem hp hn h1, h2 _ _ ⟨st.sl.putS hd _, hp⟩⟩
theorem subl {L L' : List (Nat × Blk)} (h : L.Sublist L' := by repeat (first | exact List.Sublist.refl _ | exact List.nil_sublist _ | refine List.Sublist.cons_cons _ ?_ | refine List.Sublist.cons _ ?_)) : L.Sublist L' := h
theorem dr {id : Nat} (p : Plan) (Lr : List (Nat × Blk)) (h : WD c ops Q Lr p S L) (hm : c.P.follows .mixedOrders = true := by kernel_rfl) (hQ : Calm Q := by exact (fun _ a d _ _ h => by cases d <;> exact h)) (hB : planOK ops p = true := by kernel_rfl) (hs : Lr.Sublist L := by exact subl) : W c (.region id ops true) Q S L := W.drawn p Lr hm hQ hB hs h
theorem dq (ho : ops[i]? = some ⟨some t, op, ty, pos, af, none⟩) (hv : Val c S Lr op ty v) (h : WD c ops Q Lr p ((t, v) :: S) L) (hd : Nat.blt t c.n = true := by exact rfl) : WD c ops Q Lr (.q i p) S L := WD.q ho hd hv h
theorem dn {b b' : Bool} (ho : ops[i]? = some ⟨some t, op, ty, pos, af, some (j, b)⟩) (hg : guardOf ops S j = some (.bool b')) (hb : b' = !b) (h : WD c ops Q Lr p ((t, undef) :: S) L) (hd : Nat.blt t c.n = true := by exact rfl) : WD c ops Q Lr (.q i p) S L := WD.no ho hd hg hb h
theorem dy {b b' : Bool} (ho : ops[i]? = some ⟨some t, op, ty, pos, af, some (j, b)⟩) (hg : guardOf ops S j = some (.bool b')) (hb : b' = b) (hv : Val c S Lr op ty v) (h : WD c ops Q Lr p ((t, v) :: S) L) (hd : Nat.blt t c.n = true := by exact rfl) : WD c ops Q Lr (.q i p) S L := WD.yes ho hd hg hb hv h
theorem dno {b b' : Bool} (ho : ops[i]? = some ⟨some t, op, ty, pos, af, some (j, b)⟩) (hg : guardOf ops S j = some (.bool b')) (hb : b' = !b) (h : WD c ops Q Lr p ((t, undef) :: S) L) (hd : Nat.blt t c.n = true := by exact rfl) (hs : Lr.Sublist L := by exact subl) : WO c ops Q Lr i p S L := WO.no ho hd hg hb hs h
theorem dv (ho : ops[i]? = some ⟨some t, op, ty, pos, af, none⟩) (hv : Val c S L op ty v) (h : WD c ops Q Lr p ((t, v) :: S) L) (hd : Nat.blt t c.n = true := by exact rfl) (hs : Lr.Sublist L := by exact subl) : WO c ops Q Lr i p S L := WO.val ho hd hs hv h
theorem mem_sub {M : List (Nat × Blk)} (h : Lr.Sublist L) (p : Nat × Blk) (hp : p ∈ Lr) : p ∈ M ++ L := List.mem_append_right _ (h.subset hp)
theorem dal {T : TypeId} (ho : ops[i]? = some ⟨some t, .alloc T, ty, pos, af, g⟩) (zs : List Seg) (k : ∀ b, WD c ops Q Lr p ((t, .pointer (some ⟨b, 0, none⟩)) :: S) ((b, .cells zs T) :: L)) (hg : Gd ops S g := by exact trivial) (hz : zeroIs c.P T zs := by exact zi) (hd : Nat.blt t c.n = true := by exact rfl) (hs : Lr.Sublist L := by exact subl) : WO c ops Q Lr i p S L :=
  WO.effG ho hg (d := some t) hd hs (E_alloc zs hz) fun v L' ⟨b, hv, hL⟩ => by subst hv; subst hL; exact ⟨mem_sub (M := [_]) hs, k b⟩
theorem dst {b o : Nat} {cs cs' : List Seg} {t : TypeId} (ho : ops[i]? = some ⟨none, .store T x y, ty, pos, af, g⟩) (k : WD c ops Q Lr p S L') (hg : Gd ops S g := by exact trivial) (ht : szB c.P T 1 = true := by kernel_rfl) (hx : ev S x = some (.pointer (some ⟨b, o, none⟩)) := by exact rfl) (hy : ev S y = some v := by exact rfl) (h1 : one v = true := by rfl)
    (hu : Upd b (.cells cs' t) L (.cells cs t) L' := by repeat (first | exact Upd.here _ _ | apply Upd.there)) (hs : set1 cs o v = some cs' := by rfl) (hs : Lr.Sublist L := by exact subl) (hm : ∀ p ∈ Lr, p ∈ L' := by simp) : WO c ops Q Lr i p S L :=
  WO.effG ho hg (d := none) rfl hs (E_store ht hx hy h1 hu ‹_›) fun v M ⟨_, hM⟩ => by subst hM; exact ⟨hm, k⟩
theorem dsta {b o : Nat} {cs cs' ds : List Seg} {t : TypeId} (ho : ops[i]? = some ⟨none, .store T x y, ty, pos, af, g⟩) (n : Nat) (k : WD c ops Q Lr p S L') (hg : Gd ops S g := by exact trivial) (ht : szB c.P T n = true := by kernel_rfl) (hx : ev S x = some (.pointer (some ⟨b, o, none⟩)) := by exact rfl) (hy : ev S y = some (AG ds) := by exact rfl) (hd : Fit ds := by exact fit)
    (hn : (flat ds).length = n := by exact fln) (h1 : ∀ v ∈ flat ds, one v = true := by repeat (first | exact ones_nil | refine ones_cons (by first | exact iv_one | (simp [Go.X.one]; done)) ?_))
    (hu : Upd b (.cells cs' t) L (.cells cs t) L' := by repeat (first | exact Upd.here _ _ | apply Upd.there)) (hp : putAt cs o n ds = some cs' := by rfl) (hs : Lr.Sublist L := by exact subl) (hm : ∀ p ∈ Lr, p ∈ L' := by simp) : WO c ops Q Lr i p S L :=
  WO.effG ho hg (d := none) rfl hs (E_storeA n ht hx hy hn hd h1 hu hp) fun v M ⟨_, hM⟩ => by subst hM; exact ⟨hm, k⟩
theorem dbsI {n : Nat} {k : IntKind} {vs : List Value} {parts : Array (Nat × Operand)} (ho : ops[i]? = some ⟨some t, .buildSlice T n parts, ty, pos, af, g⟩) (e by' : Nat) (l : List Int) (K : ∀ b, WD c ops Q Lr p ((t, .slice (some ⟨b, 0, none⟩) n n) :: S) ((b, .cells [(n, iv k l), (n - n, [])] e) :: L)) (hg : Gd ops S g := by exact trivial)
    (ht : slE c.P T e by' = true := by kernel_rfl) (hi : parts.toList.map (·.1) = List.range' 0 n := by exact rfl) (hv : evs S (parts.toList.map (·.2)) = some vs := by exact rfl) (h1 : vs = iv k l := by rfl) (hn : n ≤ 16777216 := by decide) (hd : Nat.blt t c.n = true := by exact rfl) (hs : Lr.Sublist L := by exact subl) : WO c ops Q Lr i p S L := by
  subst h1
  exact WO.effG ho hg (d := some t) hd hs (E_bslice e by' ht hi hv iv_one hn) fun v M ⟨b, hv, hM⟩ => by subst hv; subst hM; exact ⟨mem_sub (M := [_]) hs, K b⟩
theorem dbs {n : Nat} {vs : List Value} {parts : Array (Nat × Operand)} (ho : ops[i]? = some ⟨some t, .buildSlice T n parts, ty, pos, af, g⟩) (e by' : Nat) (K : ∀ b, WD c ops Q Lr p ((t, .slice (some ⟨b, 0, none⟩) n n) :: S) ((b, .cells [(n, vs), (n - n, [])] e) :: L)) (hg : Gd ops S g := by exact trivial)
    (ht : slE c.P T e by' = true := by kernel_rfl) (hi : parts.toList.map (·.1) = List.range' 0 n := by exact rfl) (hv : evs S (parts.toList.map (·.2)) = some vs := by exact rfl) (h1 : ∀ v ∈ vs, one v = true := by simp [Go.X.one]) (hn : n ≤ 16777216 := by decide) (hd : Nat.blt t c.n = true := by exact rfl) (hs : Lr.Sublist L := by exact subl) : WO c ops Q Lr i p S L :=
  WO.effG ho hg (d := some t) hd hs (E_bslice e by' ht hi hv h1 hn) fun v M ⟨b, hv, hM⟩ => by subst hv; subst hM; exact ⟨mem_sub (M := [_]) hs, K b⟩
theorem dap {n m cap cap2 b : Nat} {k : IntKind} {l l2 : List Int} {rs : List Value} {A : Option Addr} (ho : ops[i]? = some ⟨some t, .call ⟨.builtin .append, #[x, y], #[T, T]⟩, ty, pos, af, g⟩) (e by' : Nat)
    (K : ∀ b' cap' rs', n + m ≤ cap' → WD c ops Q Lr p ((t, .slice (some ⟨b', 0, none⟩) (n + m) cap') :: S) ((b', .cells [(n + m, iv k (l ++ l2)), (cap' - (n + m), rs')] e) :: Lx)) (hg : Gd ops S g := by exact trivial)
    (ht : slE c.P T e by' = true := by kernel_rfl) (hx : ev S x = some (.slice (some ⟨b, 0, none⟩) n cap) := by exact rfl) (hy : ev S y = some (.slice A m cap2) := by exact rfl) (hD : Del b (.cells [(n, iv k l), (cap - n, rs)] e) L Lx := by repeat (first | exact Del.here _ | apply Del.there)) (hn : n ≤ cap := by omega)
    (hs : Sr c L 1 A m (iv k l2) := by intro w hp; exact sw) (hb : (n + m) * by' ≤ 140737488355328 := by omega) (hl : n + m ≤ 9223372036854775807 := by omega) (hd : Nat.blt t c.n = true := by exact rfl) (hLr : Lr.Sublist L := by exact subl) (hm : ∀ p ∈ Lr, p ∈ Lx := by simp) : WO c ops Q Lr i p S L :=
  WO.effG ho hg (d := some t) hd hLr (E_append e by' ht hx hy hn hD hs hb hl) fun v M ⟨b', c', r', h1, hv, hM⟩ => by subst hv; subst hM; rw [iv_app]; exact ⟨fun q hq => List.mem_cons_of_mem _ (hm q hq), K b' c' r' h1⟩
theorem dapG {o : Gr} {n m cap2 : Nat} {k : IntKind} {l l2 : List Int} {A : Option Addr} (ho : ops[i]? = some ⟨some t, .call ⟨.builtin .append, #[x, y], #[T, T]⟩, ty, pos, af, g⟩) (e by' : Nat)
    (K : ∀ o', GrOK o' (n + m) → (0 < n + m → o' ≠ none) → WD c ops Q Lr p ((t, .slice (gA o') (n + m) (gC o')) :: S) (Lx ++ gL o' (n + m) (iv k (l ++ l2)) e)) (hg : Gd ops S g := by exact trivial)
    (ht : slE c.P T e by' = true := by kernel_rfl) (hx : ev S x = some (.slice (gA o) n (gC o)) := by exact rfl) (hy : ev S y = some (.slice A m cap2) := by exact rfl) (hD : DelL (gL o n (iv k l) e) L Lx := by exact dell) (hn : l.length = n := by exact sc) (hog : GrOK o n := by exact sc)
    (hs : Sr c L 1 A m (iv k l2) := by intro w hp; exact sw) (hb : (n + m) * by' ≤ 140737488355328 := by omega) (hl : n + m ≤ 9223372036854775807 := by omega) (hd : Nat.blt t c.n = true := by exact rfl) (hLr : Lr.Sublist L := by exact subl) (hm : ∀ p ∈ Lr, p ∈ Lx := by simp) : WO c ops Q Lr i p S L :=
  WO.effG ho hg (d := some t) hd hLr (E_appG e by' ht hx hy (by rw [iv_len, hn]) hog hD hs hb hl) fun v M ⟨o', h1, h2, hv, hM⟩ => by subst hv; subst hM; rw [iv_app]; exact ⟨fun q hq => List.mem_append_left _ (hm q hq), K o' h1 h2⟩
theorem dcp {f : FuncId} {xs : Array Operand} {ats : Array TypeId} {vs : List Value} (ho : ops[i]? = some ⟨d, .call ⟨.value (.func f), xs, ats⟩, ty, pos, af, g⟩) (ha : evs S xs.toList = some vs) (hc : ∀ w, HP c.w0 w c.O L → Calls c.P f vs.toArray w fun e w' => e = .returned v ∧ HP w w' [] []) (k : WD c ops Q Lr p (putS d v S) L)
    (hg : Gd ops S g := by exact trivial) (hf : fnB c.P f = true := by kernel_rfl) (hd : inB c.n d = true := by exact rfl) (hs : Lr.Sublist L := by exact subl) : WO c ops Q Lr i p S L :=
  WO.calG ho hg hd hs (C_pure v hf ha hc) fun v M ⟨hv, hM⟩ => by subst hv; subst hM; exact ⟨fun _ h => hs.subset h, k⟩
theorem dcg {ι : Type} {f : FuncId} {xs : Array Operand} {ats : Array TypeId} {vs : List Value} {bs : List Nat} {V : ι → Value} {M : ι → List (Nat × Blk)} {A : ι → Prop} (ho : ops[i]? = some ⟨d, .call ⟨.value (.func f), xs, ats⟩, ty, pos, af, g⟩) (ha : evs S xs.toList = some vs)
    (hc : ∀ w, HP c.w0 w c.O L → Calls c.P f vs.toArray w fun e w' => ∃ r, A r ∧ e = .returned (V r) ∧ HP w w' bs (M r)) (k : ∀ r, A r → WD c ops Q Lr p (putS d (V r) S) (M r ++ Lx))
    (hg : Gd ops S g := by exact trivial) (hdel : Dels bs L Lx := by exact dels) (hf : fnB c.P f = true := by kernel_rfl) (hd : inB c.n d = true := by exact rfl) (hs : Lr.Sublist L := by exact subl) (hm : ∀ p ∈ Lr, p ∈ Lx := by simp) : WO c ops Q Lr i p S L :=
  WO.calG ho hg hd hs (C_call bs V M A hf ha hdel hc) fun v L' ⟨r, hr, hv, hL⟩ => by subst hv; subst hL; exact ⟨fun q hq => List.mem_append_right _ (hm q hq), k r hr⟩
theorem dcgG {f : FuncId} {xs : Array Operand} {ats : Array TypeId} {vs : List Value} {V : Gr → Value} {B : Gr → Prop} {ys : Gr → List (Nat × Blk)} (ho : ops[i]? = some ⟨d, .call ⟨.value (.func f), xs, ats⟩, ty, pos, af, g⟩) (ha : evs S xs.toList = some vs)
    (hc : ∀ w, HP c.w0 w c.O L → Calls c.P f vs.toArray w fun e' w' => ∃ o, B o ∧ e' = .returned (V o) ∧ HP w w' [] (ys o)) (k : ∀ o, B o → WD c ops Q Lr p (putS d (V o) S) (L ++ ys o))
    (hg : Gd ops S g := by exact trivial) (hf : fnB c.P f = true := by kernel_rfl) (hd : inB c.n d = true := by exact rfl) (hs : Lr.Sublist L := by exact subl) : WO c ops Q Lr i p S L :=
  WO.calG ho hg hd hs (C_fn (R := fun v M => ∃ o, B o ∧ v = V o ∧ M = L ++ ys o) hf ha fun w hp => (hc w hp).mono fun _ _ ⟨o, h1, h2, h3⟩ => ⟨_, _, h2, (hp.trans0 h3).perm List.perm_append_comm, o, h1, rfl, rfl⟩)
    fun v M ⟨o, h1, h2, h3⟩ => by subst h2; subst h3; exact ⟨fun q hq => List.mem_append_left _ (hs.subset hq), k o h1⟩
theorem W.j1.{u1} {x : Code} {α1 : Sort u1} {S1 : (a1 : α1) → Slots} {L1 : (a1 : α1) → List (Nat × Blk)} (h : (∀ a1, WQ c Q .normal (S1 a1) (L1 a1)) → W c x Q S L) (k : ∀ a1, WQ c Q .normal (S1 a1) (L1 a1)) : W c x Q S L := h k
theorem W.j3.{u1, u2, u3} {x : Code} {α1 : Sort u1} {α2 : (a1 : α1) → Sort u2} {α3 : (a1 : α1) → (a2 : α2 a1) → Sort u3} {S1 : (a1 : α1) → (a2 : α2 a1) → (a3 : α3 a1 a2) → Slots} {L1 : (a1 : α1) → (a2 : α2 a1) → (a3 : α3 a1 a2) → List (Nat × Blk)} (h : (∀ a1 a2 a3, WQ c Q .normal (S1 a1 a2 a3) (L1 a1 a2 a3)) → W c x Q S L) (k : ∀ a1 a2 a3, WQ c Q .normal (S1 a1 a2 a3) (L1 a1 a2 a3)) : W c x Q S L := h k
theorem W.j5.{u1, u2, u3, u4, u5} {x : Code} {α1 : Sort u1} {α2 : (a1 : α1) → Sort u2} {α3 : (a1 : α1) → (a2 : α2 a1) → Sort u3} {α4 : (a1 : α1) → (a2 : α2 a1) → (a3 : α3 a1 a2) → Sort u4} {α5 : (a1 : α1) → (a2 : α2 a1) → (a3 : α3 a1 a2) → (a4 : α4 a1 a2 a3) → Sort u5} {S1 : (a1 : α1) → (a2 : α2 a1) → (a3 : α3 a1 a2) → (a4 : α4 a1 a2 a3) → (a5 : α5 a1 a2 a3 a4) → Slots} {L1 : (a1 : α1) → (a2 : α2 a1) → (a3 : α3 a1 a2) → (a4 : α4 a1 a2 a3) → (a5 : α5 a1 a2 a3 a4) → List (Nat × Blk)} (h : (∀ a1 a2 a3 a4 a5, WQ c Q .normal (S1 a1 a2 a3 a4 a5) (L1 a1 a2 a3 a4 a5)) → W c x Q S L) (k : ∀ a1 a2 a3 a4 a5, WQ c Q .normal (S1 a1 a2 a3 a4 a5) (L1 a1 a2 a3 a4 a5)) : W c x Q S L := h k
theorem W.j6.{u1, u2, u3, u4, u5, u6} {x : Code} {α1 : Sort u1} {α2 : (a1 : α1) → Sort u2} {α3 : (a1 : α1) → (a2 : α2 a1) → Sort u3} {α4 : (a1 : α1) → (a2 : α2 a1) → (a3 : α3 a1 a2) → Sort u4} {α5 : (a1 : α1) → (a2 : α2 a1) → (a3 : α3 a1 a2) → (a4 : α4 a1 a2 a3) → Sort u5} {α6 : (a1 : α1) → (a2 : α2 a1) → (a3 : α3 a1 a2) → (a4 : α4 a1 a2 a3) → (a5 : α5 a1 a2 a3 a4) → Sort u6} {S1 : (a1 : α1) → (a2 : α2 a1) → (a3 : α3 a1 a2) → (a4 : α4 a1 a2 a3) → (a5 : α5 a1 a2 a3 a4) → (a6 : α6 a1 a2 a3 a4 a5) → Slots} {L1 : (a1 : α1) → (a2 : α2 a1) → (a3 : α3 a1 a2) → (a4 : α4 a1 a2 a3) → (a5 : α5 a1 a2 a3 a4) → (a6 : α6 a1 a2 a3 a4 a5) → List (Nat × Blk)} (h : (∀ a1 a2 a3 a4 a5 a6, WQ c Q .normal (S1 a1 a2 a3 a4 a5 a6) (L1 a1 a2 a3 a4 a5 a6)) → W c x Q S L) (k : ∀ a1 a2 a3 a4 a5 a6, WQ c Q .normal (S1 a1 a2 a3 a4 a5 a6) (L1 a1 a2 a3 a4 a5 a6)) : W c x Q S L := h k
theorem W.j7.{u1, u2, u3, u4, u5, u6, u7} {x : Code} {α1 : Sort u1} {α2 : (a1 : α1) → Sort u2} {α3 : (a1 : α1) → (a2 : α2 a1) → Sort u3} {α4 : (a1 : α1) → (a2 : α2 a1) → (a3 : α3 a1 a2) → Sort u4} {α5 : (a1 : α1) → (a2 : α2 a1) → (a3 : α3 a1 a2) → (a4 : α4 a1 a2 a3) → Sort u5} {α6 : (a1 : α1) → (a2 : α2 a1) → (a3 : α3 a1 a2) → (a4 : α4 a1 a2 a3) → (a5 : α5 a1 a2 a3 a4) → Sort u6} {α7 : (a1 : α1) → (a2 : α2 a1) → (a3 : α3 a1 a2) → (a4 : α4 a1 a2 a3) → (a5 : α5 a1 a2 a3 a4) → (a6 : α6 a1 a2 a3 a4 a5) → Sort u7} {S1 : (a1 : α1) → (a2 : α2 a1) → (a3 : α3 a1 a2) → (a4 : α4 a1 a2 a3) → (a5 : α5 a1 a2 a3 a4) → (a6 : α6 a1 a2 a3 a4 a5) → (a7 : α7 a1 a2 a3 a4 a5 a6) → Slots} {L1 : (a1 : α1) → (a2 : α2 a1) → (a3 : α3 a1 a2) → (a4 : α4 a1 a2 a3) → (a5 : α5 a1 a2 a3 a4) → (a6 : α6 a1 a2 a3 a4 a5) → (a7 : α7 a1 a2 a3 a4 a5 a6) → List (Nat × Blk)} (h : (∀ a1 a2 a3 a4 a5 a6 a7, WQ c Q .normal (S1 a1 a2 a3 a4 a5 a6 a7) (L1 a1 a2 a3 a4 a5 a6 a7)) → W c x Q S L) (k : ∀ a1 a2 a3 a4 a5 a6 a7, WQ c Q .normal (S1 a1 a2 a3 a4 a5 a6 a7) (L1 a1 a2 a3 a4 a5 a6 a7)) : W c x Q S L := h k
theorem at_ {b : Nat} {cs : List Seg} (h : At c L b cs := by repeat (first | exact At.head | exact At.headR | exact AtW.at ‹_› (by first | (simp; done) | simp [*]) | apply At.tail)) : At c L b cs := h
theorem veqlI (m n : Nat) (k : IntKind) {l l' : List Int} (hx : ev S x = some (AG [(n, iv k l)]) := by exact rfl) (hy : ev S y = some (AG [(n, iv k l')]) := by exact rfl) (hm : Nat.ble m 9000 = true := by decide) (hs : shape c.P m T = some (List.replicate n (kdOf k)) := by kernel_rfl) (hag : aggT c.P T = true := by kernel_rfl) (hg : c.P.eqGuardType c.P.depth T = false := by kernel_rfl) (h1 : l.length = n := by exact sc) (h2 : l'.length = n := by exact sc) :
    Val c S L (.binOp .eql T x y T') ty (.bool (decide (l = l'))) := V_eqlI m n k hm hs hag hg hx hy h1 h2
/-- A value of a slice that came in. -/
theorem vldV {b o q n : Nat} {xs : List Value} (j : Nat) (hs : SrW c.w0 1 (some ⟨b, o, none⟩) n xs := by assumption) (hv : xs[j]? = some v := by assumption) (hO : b ∉ c.O := by simp) (ht : scB c.P T = true := by kernel_rfl) (hx : ev S x = some (.pointer (some ⟨b, q, none⟩)) := by exact rfl) (hq : q = o + j := by first | rfl | omega) : Val c S L (.load T x) ty v :=
  V_loadSr (SrW.old hs (by intro b' o' e; injection e with e; injection e with e1 e2; subst e1; exact hO)) rfl ht hx hq hv
end
end Go.X

/- Strings of bytes compared; slices beside nil; full slices grown; marked bytes. -/
namespace Go.X
open Go.RowKit
def allB (l : List Int) : Prop := ∀ c ∈ l, 0 ≤ c ∧ c ≤ 255
/-- Nobody writes it any more. -/
theorem HP.ro {w0 w : World} {O : List Nat} {L L' : List (Nat × Blk)} {b : Nat} {cs : List Seg} {t : TypeId} (h : HP w0 w O L) (hu : Upd b (.ro cs) L (.cells cs t) L') : HP w0 w O L' := by
  refine h.upd hu rfl rfl rfl rfl (fun _ _ => rfl) ?_
  have := h.held _ hu.mem
  exact ⟨this.1, t, _, this.2⟩
theorem upd {b : Nat} {k k0 : Blk} {L L' : List (Nat × Blk)} (h : Upd b k L k0 L' := by repeat (first | exact Upd.here _ _ | apply Upd.there)) : Upd b k L k0 L' := h
section
variable {c : Cx} {Q : Post} {S S1 : Slots} {L L1 L' Lr Lx : List (Nat × Blk)} {ops : Array Oper} {d : Option Tmp} {t : Tmp} {ty T T' : TypeId} {pos : String} {af : Array Edge} {rest : List Oper} {op : Op} {x y z : Operand} {v : Value} {g : Option (Nat × Bool)} {i j : Nat} {p : Plan}
theorem oro {b n cap : Nat} {cs : List Seg} {e : TypeId} (k : WL c ops Q rest ((t, .slice (some ⟨b, 0, none⟩) n cap) :: S) L') (hx : ev S x = some (.slice (some ⟨b, 0, none⟩) n cap) := by exact rfl) (hu : Upd b (.ro cs) L (.cells cs e) L' := by exact upd) (ht : u8sB c.P T = true := by kernel_rfl) (hd : Nat.blt t c.n = true := by exact rfl) : WL c ops Q (⟨some t, .convert T T x, ty, pos, af, none⟩ :: rest) S L :=
  WL.eff (d := some t) hd (E_mark ht hx hu) fun v M ⟨hv, hM⟩ => by subst hv; subst hM; exact k
def setAllV : List (Nat × Value) → List Value → List Value
  | [], z => z
  | (i, v) :: r, z => setAllV r (z.set i v)
theorem fill_set : ∀ (ps : List (Nat × Value)) (z : List Value), (∀ q ∈ ps, one q.2 = true ∧ q.1 < z.length) → Instr.fill (fun i => some (i * 1, 1)) z.toArray ps = some (setAllV ps z).toArray
  | [], z, _ => rfl
  | (i, v) :: r, z, h => by
    obtain ⟨h1, h2⟩ := h _ List.mem_cons_self
    simp only at h1 h2
    have hc : v.cells = #[v] := by cases v <;> first | rfl | (cases h1; done)
    have hcond : (decide ((#[v] : Array Value).size ≠ 1) || decide (i * 1 + (#[v] : Array Value).size > z.toArray.size)) = false := by simp; omega
    have e : Array.foldl (fun cs (q : Value × Nat) => cs.setIfInBounds (i * 1 + q.2) q.1) z.toArray (#[v] : Array Value).zipIdx = (z.set i v).toArray := by simp [Array.zipIdx]
    simp only [Instr.fill, hc, hcond, Bool.false_eq_true, if_false]
    rw [e]
    exact fill_set r (z.set i v) (fun q hq => by have := h q (List.mem_cons_of_mem _ hq); simpa using this)
theorem evs_zip : ∀ (ps : List (Nat × Operand)) (vs : List Value) {n : Nat} {a : Act}, Sl n a S → evs S (ps.map (·.2)) = some vs → (ps.map fun q => (q.1, a.eval q.2)) = (ps.map (·.1)).zip vs
  | [], vs, _, _, _, h => by simp [evs] at h; subst h; rfl
  | q :: ps, vs, n, a, sl, h => by
    simp only [List.map_cons, evs] at h
    cases hq : ev S q.2 with
    | none => rw [hq] at h; simp at h
    | some v =>
      rw [hq] at h
      cases hr : evs S (ps.map (·.2)) with
      | none => rw [hr] at h; simp at h
      | some us => rw [hr] at h; simp at h; subst h; simp [sl.ev hq, evs_zip ps us sl hr]
/-- An array of integers, of which some are told; the rest is 0. -/
theorem vbI {parts : Array (Nat × Operand)} {vs : List Value} (n : Nat) (k : IntKind) (m : Nat) (l : List Int) (hv : evs S (parts.toList.map (·.2)) = some vs := by exact rfl) (hT : arB c.P T n 1 = true := by kernel_rfl) (hz : zeroIs c.P T [(n, List.replicate n (.int k 0))] := by exact zi)
    (h1 : ((parts.toList.map (·.1)).zip vs).all (fun q => one q.2 && Nat.blt q.1 n) = true := by rfl) (he : setAllV ((parts.toList.map (·.1)).zip vs) (List.replicate n (.int k 0)) = iv k (l ++ List.replicate (n - m) 0) := by rfl) :
    Val c S L (.build T parts) ty (AG [(n, iv k (l ++ List.replicate (n - m) 0))]) := fun a w st => by
  obtain ⟨z, hz1, hz2⟩ := run_zeroValue (w := w) hz
  unfold arB at hT
  split at hT <;> try (cases hT; done)
  rename_i m' e' hu
  simp only [Bool.and_eq_true, beq_iff_eq] at hT
  obtain ⟨rfl, hs⟩ := hT
  have e : (parts.map fun (i, x) => (i, a.eval x)).toList = parts.toList.map fun q => (q.1, a.eval q.2) := by simp
  have hz3 : z.cells = (List.replicate m' (Value.int k 0)).toArray := by rw [hz2]; simp [flat]
  have hf := fill_set ((parts.toList.map (·.1)).zip vs) (List.replicate m' (Value.int k 0)) (fun q hq => by
    have := List.all_eq_true.1 h1 q hq
    simp only [Bool.and_eq_true] at this
    exact ⟨this.1, by simpa using blt_lt this.2⟩)
  simp only [ex, execOp, Instr.build]
  simp only [Sem.run_bind, hz1, Result.andThen_ok, run_underlying hu, hz3, e, run_sizeOf_sz hs, evs_zip parts.toList vs st.sl hv, hf, he]
  simp [AG, flat]
/-- Onto nothing. -/
theorem oap0 {m cap cap2 b : Nat} {k : IntKind} {l2 : List Int} {rs : List Value} {A : Option Addr} (e by' : Nat)
    (K : ∀ b' cap' rs', m ≤ cap' → WL c ops Q rest ((t, .slice (some ⟨b', 0, none⟩) m cap') :: S) ((b', .cells [(m, iv k l2), (cap' - m, rs')] e) :: Lr))
    (ht : slE c.P T e by' = true := by kernel_rfl) (hx : ev S x = some (.slice (some ⟨b, 0, none⟩) 0 cap) := by exact rfl) (hy : ev S y = some (.slice A m cap2) := by exact rfl) (hD : Del b (.cells [(0, iv k []), (cap - 0, rs)] e) L Lr := by repeat (first | exact Del.here _ | apply Del.there))
    (hs : Sr c L 1 A m (iv k l2) := by intro w hp; exact sw) (hb : m * by' ≤ 140737488355328 := by omega) (hl : m ≤ 9223372036854775807 := by omega) (hd : Nat.blt t c.n = true := by exact rfl) :
    WL c ops Q (⟨some t, .call ⟨.builtin .append, #[x, y], #[T, T]⟩, ty, pos, af, none⟩ :: rest) S L := by
  refine oap (k := k) (l := []) (l2 := l2) e by' ?_ ht hx hy hD (Nat.zero_le _) hs (by rwa [Nat.zero_add]) (by rwa [Nat.zero_add]) hd
  rw [Nat.zero_add]; exact K
theorem dap0 {m cap cap2 b : Nat} {k : IntKind} {l2 : List Int} {rs : List Value} {A : Option Addr} (ho : ops[i]? = some ⟨some t, .call ⟨.builtin .append, #[x, y], #[T, T]⟩, ty, pos, af, g⟩) (e by' : Nat)
    (K : ∀ b' cap' rs', m ≤ cap' → WD c ops Q Lr p ((t, .slice (some ⟨b', 0, none⟩) m cap') :: S) ((b', .cells [(m, iv k l2), (cap' - m, rs')] e) :: Lx)) (hg : Gd ops S g := by exact trivial)
    (ht : slE c.P T e by' = true := by kernel_rfl) (hx : ev S x = some (.slice (some ⟨b, 0, none⟩) 0 cap) := by exact rfl) (hy : ev S y = some (.slice A m cap2) := by exact rfl) (hD : Del b (.cells [(0, iv k []), (cap - 0, rs)] e) L Lx := by repeat (first | exact Del.here _ | apply Del.there))
    (hs : Sr c L 1 A m (iv k l2) := by intro w hp; exact sw) (hb : m * by' ≤ 140737488355328 := by omega) (hl : m ≤ 9223372036854775807 := by omega) (hd : Nat.blt t c.n = true := by exact rfl) (hLr : Lr.Sublist L := by exact subl) (hm : ∀ p ∈ Lr, p ∈ Lx := by simp) : WO c ops Q Lr i p S L := by
  refine dap (k := k) (l := []) (l2 := l2) ho e by' ?_ hg ht hx hy hD (Nat.zero_le _) hs (by rwa [Nat.zero_add]) (by rwa [Nat.zero_add]) hd hLr hm
  rw [Nat.zero_add]; exact K
/-- A slice's begin as an array. -/
theorem vs2p {A : Option Addr} {cap len : Nat} {xs : List Value} (m : Nat) (hx : ev S x = some (.slice A len cap) := by exact rfl) (hs : Sr c L 1 A len xs := by intro w hp; exact sw) (h0 : m ≤ len := by omega) (hm : 0 < m := by omega) (ht : arB c.P T m 1 = true := by kernel_rfl) : Val c S L (.sliceToArrayPointer T x) ty (.pointer A) := fun a w st => by
  obtain ⟨b, o, rfl⟩ := (hs w st.hp).hasN (by omega)
  exact V_s2p ht h0 hx a w st
theorem vldAS {A : Option Addr} {n : Nat} {k : IntKind} {l : List Int} (m : Nat) (hx : ev S x = some (.pointer A) := by exact rfl) (hs : Sr c L 1 A n (iv k l) := by intro w hp; exact sw) (h0 : m ≤ n := by omega) (hm : 0 < m := by omega) (ht : agB c.P T m = true := by kernel_rfl) : Val c S L (.load T x) ty (AG [(m, iv k (l.take m))]) := fun a w st => by
  have hw := hs w st.hp
  obtain ⟨b, o, rfl⟩ := hw.hasN (by omega)
  have e1 := st.sl.ev hx
  have hl := hw.1
  rw [iv_len] at hl
  have hc : ∀ (j i : Nat) (acc : Array Value), i + j ≤ m → (loadCellsFrom ⟨b, o, none⟩ i j acc).run c.P w = .ok (acc ++ (((iv k l).drop i).take j).toArray) w := by
    intro j
    induction j with
    | zero => intro i acc _; simp [loadCellsFrom]
    | succ j ih =>
      intro i acc hle
      have hi : i < (iv k l).length := by rw [iv_len]; omega
      obtain ⟨b2, o2, e2, hcell⟩ := hw.2.2 i _ (List.getElem?_eq_getElem hi)
      injection e2 with e2; injection e2 with e3 e4; subst e3; subst e4
      simp only [loadCellsFrom, Sem.run_bind, load, Sem.run, add_none, hcell, Result.andThen_ok]
      rw [ih (i + 1) _ (by omega)]
      congr 1
      rw [List.drop_eq_getElem_cons hi, List.take_succ_cons]
      simp
  have hL := hc m 0 #[] (by omega)
  simp [ex, execOp, e1, Instr.loadAt, Instr.sureAddr, loadVar, run_isAgg_ag ht, run_sizeOf_sz (sz_of_ag ht), loadCells, hL, AG, flat, iv_take]
theorem viS0Z {i : Operand} {b len cap : Nat} {k : IntKind} {p : Int} (hx : ev S x = some (.slice (some ⟨b, 0, none⟩) len cap) := by exact rfl) (hi : ev S i = some (.int k p) := by exact rfl) (h0 : 0 ≤ p ∧ p < len := by omega) (ht : slB c.P T 1 = true := by kernel_rfl) : Val c S L (.indexAddr T x i) ty (.pointer (some ⟨b, p.toNat, none⟩)) := by
  have := V_indexAddrS (c := c) (L := L) (ty := ty) 1 ht hx hi h0.1 h0.2; simpa using this
theorem viS1Z {i : Operand} {b o len cap : Nat} {k : IntKind} {p : Int} (hx : ev S x = some (.slice (some ⟨b, o, none⟩) len cap) := by exact rfl) (hi : ev S i = some (.int k p) := by exact rfl) (h0 : 0 ≤ p ∧ p < len := by omega) (ht : slB c.P T 1 = true := by kernel_rfl) : Val c S L (.indexAddr T x i) ty (.pointer (some ⟨b, o + p.toNat, none⟩)) := by
  have := V_indexAddrS (c := c) (L := L) (ty := ty) 1 ht hx hi h0.1 h0.2; simpa using this
end
end Go.X

/- Structs compared, segment by segment. -/
namespace Go.X
open Go.RowKit
theorem lEq_ivU {k : IntKind} : ∀ {l l' : List Int}, lEq (iv k l) (iv k l') = decide (l = l')
  | [], [] => by simp [iv, lEq]
  | a :: l, [] => by simp [iv, lEq]
  | [], b :: l' => by simp [iv, lEq]
  | a :: l, b :: l' => by
    have ih := lEq_ivU (k := k) (l := l) (l' := l')
    simp only [iv, List.map_cons, lEq, cEq] at ih ⊢
    rw [ih]
    by_cases h1 : a = b <;> by_cases h2 : l = l' <;> simp [h1, h2]
/-- Segment by segment. -/
def eqS : List Seg → List Seg → Bool
  | [], [] => true
  | (_, x) :: as, (_, y) :: bs => lEq x y && eqS as bs
  | _, _ => false
@[simp] theorem eqS_nil : eqS [] [] = true := rfl
@[simp] theorem eqS_iv {n m : Nat} {k : IntKind} {l l' : List Int} {as bs : List Seg} : eqS ((n, iv k l) :: as) ((m, iv k l') :: bs) = (decide (l = l') && eqS as bs) := by simp [eqS, lEq_ivU]
@[simp] theorem eqS_int {n m : Nat} {k k' : IntKind} {a b : Int} {as bs : List Seg} : eqS ((n, [.int k a]) :: as) ((m, [.int k' b]) :: bs) = (decide (a = b) && eqS as bs) := by
  simp only [eqS, lEq, cEq, Bool.and_true]; rfl
@[simp] theorem eqS_bool {n m : Nat} {a b : Bool} {as bs : List Seg} : eqS ((n, [.bool a]) :: as) ((m, [.bool b]) :: bs) = ((a == b) && eqS as bs) := by simp [eqS, lEq, cEq]
@[simp] theorem eqS_repl {n m p : Nat} {k : IntKind} {l : List Int} {a : Int} {as bs : List Seg} : eqS ((n, List.replicate p (.int k a)) :: as) ((m, iv k l) :: bs) = (decide (List.replicate p a = l) && eqS as bs) := by rw [iv_rep]; exact eqS_iv
@[simp] theorem eqS_repr {n m p : Nat} {k : IntKind} {l : List Int} {a : Int} {as bs : List Seg} : eqS ((n, iv k l) :: as) ((m, List.replicate p (.int k a)) :: bs) = (decide (l = List.replicate p a) && eqS as bs) := by rw [iv_rep]; exact eqS_iv
/-- Segments of such kinds. -/
inductive KS : List Seg → List (Nat × Nat) → Prop where
  | nil : KS [] []
  | cons {n q : Nat} {xs : List Value} {as : List Seg} {ks : List (Nat × Nat)} (h : xs.map kd = List.replicate n q) (t : KS as ks) : KS ((n, xs) :: as) ((n, q) :: ks)
theorem iv_kds {k : IntKind} {l : List Int} {n : Nat} (h : l.length = n) : (iv k l).map kd = List.replicate n (kdOf k) := by
  have := iv_kd (k := k) h; simpa [flat] using this
theorem ksx {as : List Seg} {ks : List (Nat × Nat)} (h : KS as ks := by repeat (first | exact KS.nil | refine KS.cons (by first | rfl | exact iv_kds sc | simp) ?_)) : KS as ks := h
def shOf (ks : List (Nat × Nat)) : List Nat := ks.flatMap fun q => List.replicate q.1 q.2
theorem KS.sh {as : List Seg} {ks : List (Nat × Nat)} (h : KS as ks) : (flat as).map kd = shOf ks := by
  induction h with
  | nil => rfl
  | @cons n q xs as ks h t ih => simp only [flat, List.flatMap_cons, List.map_append, shOf] at ih ⊢; rw [h, ih]
theorem KS.eq {as : List Seg} {ks : List (Nat × Nat)} (h : KS as ks) : ∀ {bs : List Seg}, KS bs ks → lEq (flat as) (flat bs) = eqS as bs := by
  induction h with
  | nil => intro bs h2; cases h2; rfl
  | @cons n q xs as ks h t ih =>
    intro bs h2
    cases h2 with
    | @cons _ _ ys bs _ h' t' =>
      have l1 := congrArg List.length h
      have l2 := congrArg List.length h'
      simp only [List.length_map, List.length_replicate] at l1 l2
      rw [flat_cons, flat_cons, lEq_append (by omega), ih t', eqS]
section
variable {c : Cx} {S : Slots} {L : List (Nat × Blk)} {ty : TypeId} {x y : Operand} {T T' : TypeId} {as bs : List Seg}
theorem vneA (ks : List (Nat × Nat)) (hx : ev S x = some (AG as) := by exact rfl) (hy : ev S y = some (AG bs) := by exact rfl) (h1 : KS as ks := by exact ksx) (h2 : KS bs ks := by exact ksx) (hs : shape c.P 5 T = some (shOf ks) := by kernel_rfl) (hag : aggT c.P T = true := by kernel_rfl) (hg : c.P.eqGuardType c.P.depth T = false := by kernel_rfl) :
    Val c S L (.binOp .neq T x y T') ty (.bool (!eqS as bs)) := by
  have := V_neqA (c := c) (S := S) (L := L) (ty := ty) (T' := T') 5 (shOf ks) (by decide) hs hag hg hx hy h1.sh h2.sh
  rwa [h1.eq h2] at this
end
end Go.X

/- Arguments of a law, taken apart by a description of their type. -/
namespace Go.X
open Go.RowKit Go.WideShapes Go.ChangeShapes
/-- What a type is made of; a struct is its fields. -/
inductive Ds where
  | int (k : IntKind)
  | bool
  | sl (d : Ds)
  | arr (n : Nat) (d : Ds)
  | fnil
  | fcons (d r : Ds)
def Ds.size : Ds → Nat
  | .int _ => 1
  | .bool => 1
  | .sl _ => 1
  | .arr n d => n * d.size
  | .fnil => 0
  | .fcons d r => d.size + r.size
def Ds.isF : Ds → Bool
  | .fnil => true
  | .fcons _ _ => true
  | _ => false
def fieldsP (P : Program) (t : TypeId) : List (Nat × TypeId) := match P.underlying t with
  | some (.struct fs) => fs.toList.map fun f => (f.offset, f.type)
  | _ => []
def structB (P : Program) (t : TypeId) : Bool := match P.underlying t with
  | some (.struct _) => true
  | _ => false
def elemS (P : Program) (t : TypeId) : Option TypeId := match P.underlying t with
  | some (.slice e) => some e
  | _ => none
def elemA (P : Program) (t : TypeId) (n : Nat) : Option TypeId := match P.underlying t with
  | some (.array m e) => if m = n then some e else none
  | _ => none
/-- A type (or, of a struct, the fields from an offset on) is so made. -/
def matchD (P : Program) : Ds → TypeId → List (Nat × TypeId) → Nat → Bool
  | .int k, t, _, _ => inB' P t k && P.cellsOf t == 1
  | .bool, t, _, _ => boB P t && P.cellsOf t == 1
  | .sl d, t, _, _ => P.cellsOf t == 1 && (match elemS P t with
    | some e => P.cellsOf e == d.size && matchD P d e (fieldsP P e) 0
    | none => false)
  | .arr n d, t, _, _ => P.cellsOf t == n * d.size && (match elemA P t n with
    | some e => P.cellsOf e == d.size && matchD P d e (fieldsP P e) 0
    | none => false)
  | .fnil, t, fs, o => structB P t && fs.isEmpty && P.cellsOf t == o
  | .fcons d r, t, fs, o => structB P t && (match fs with
    | f :: fs' => f.1 == o && P.cellsOf f.2 == d.size && r.isF && matchD P d f.2 (fieldsP P f.2) 0 && matchD P r t fs' (o + d.size)
    | [] => false)
/-- Cells that are such a thing's, in a world. -/
def okD (w : World) : Ds → List Value → Prop
  | .int k, cs => ∃ n, cs = [.int k n] ∧ (Lit.int k n).wf = true
  | .bool, cs => ∃ b, cs = [.bool b]
  | .sl d, cs => ∃ A n cap, cs = [.slice A n cap] ∧ n ≤ cap ∧ cap ≤ maxLen ∧ ∃ es : List (List Value), es.length = n ∧ ∀ (i : Nat) e, es[i]? = some e → okD w d e ∧ e.length = d.size ∧ ∃ a, A = some a ∧ ∀ (j : Nat) v, e[j]? = some v → w.cell? (a.add (i * d.size + j)) = some v
  | .arr n d, cs => cs.length = n * d.size ∧ ∀ i, i < n → okD w d ((cs.drop (i * d.size)).take d.size)
  | .fnil, cs => cs = []
  | .fcons d r, cs => okD w d (cs.take d.size) ∧ okD w r (cs.drop d.size)

theorem cells?_get {w : World} {base : Nat} {a : Addr} {n : Nat} {cs : List Value} (h : w.cells? base a n = some cs) : cs.length = n ∧ ∀ (j : Nat) v, cs[j]? = some v → w.cell? (a.add j) = some v := by
  unfold World.cells? at h
  split at h
  · have key : ∀ (n k : Nat) (cs : List Value), (List.range' k n).mapM (fun i => w.cell? (a.add i)) = some cs → cs.length = n ∧ ∀ (j : Nat) v, cs[j]? = some v → w.cell? (a.add (k + j)) = some v := by
      intro n
      induction n with
      | zero => intro k cs h; simp at h; subst h; simp
      | succ n ih =>
        intro k cs h
        rw [List.range'_succ, List.mapM_cons] at h
        cases hc : w.cell? (a.add k) with
        | none => rw [hc] at h; simp at h
        | some v0 =>
          rw [hc] at h
          cases hr : (List.range' (k + 1) n).mapM (fun i => w.cell? (a.add i)) with
          | none => rw [hr] at h; simp at h
          | some r =>
            rw [hr] at h
            simp at h
            subst h
            obtain ⟨h1, h2⟩ := ih (k + 1) r hr
            refine ⟨by simp [h1], fun j v hv => ?_⟩
            cases j with
            | zero => simp at hv; subst hv; exact hc
            | succ j => have := h2 j v (by simpa using hv); rwa [show k + 1 + j = k + (j + 1) by omega] at this
    rw [List.range_eq_range'] at h
    obtain ⟨h1, h2⟩ := key n 0 cs h
    exact ⟨h1, fun j v hv => by have := h2 j v hv; rwa [Nat.zero_add] at this⟩
  · cases h
section
variable {H : Type} {enc : TypeId × Value → H} {P : Program} {w : World} {base : Nat} {sp : Nat → Bool} {held : Bool}
theorem und_int {t : TypeId} {k : IntKind} (h : inB' P t k = true) : P.underlying t = some (.int k) := by
  unfold inB' at h
  split at h <;> try (cases h; done)
  rename_i k' hu
  simp only [beq_iff_eq] at h
  subst h; exact hu
theorem open_both : ∀ d : Ds, (∀ (t : TypeId) (fuel : Nat) (cs : List Value) (x : DataW H × List MemPlace), matchD P d t (fieldsP P t) 0 = true → DataW.trod enc P w base sp held fuel t cs = some x → okD w d cs ∧ cs.length = d.size) ∧
    (∀ (t : TypeId) (fs : List (Nat × TypeId)) (o : Nat) (cs : List Value), matchD P d t fs o = true → d = .fnil ∨ (∃ a r, d = .fcons a r) → cs.length = P.cellsOf t → (∀ f ∈ fs, ∃ n x', DataW.trod enc P w base sp held n f.2 ((cs.drop f.1).take (P.cellsOf f.2)) = some (x' : DataW H × List MemPlace)) → okD w d (cs.drop o) ∧ o + d.size = P.cellsOf t) := by
  have str : ∀ (t : TypeId) (fuel : Nat) (cs : List Value) (x : DataW H × List MemPlace), structB P t = true → DataW.trod enc P w base sp held fuel t cs = some x → cs.length = P.cellsOf t ∧ ∀ f ∈ fieldsP P t, ∃ n x', DataW.trod enc P w base sp held n f.2 ((cs.drop f.1).take (P.cellsOf f.2)) = some (x' : DataW H × List MemPlace) := by
    intro t fuel cs x hs h
    unfold structB at hs
    split at hs <;> try (cases hs; done)
    rename_i fs hu
    obtain ⟨xs, n, _, _, hl, hx, hf⟩ := DataW.trod_struct hu h
    refine ⟨hl, fun f hfm => ?_⟩
    unfold fieldsP at hfm
    rw [hu] at hfm
    simp only [List.mem_map] at hfm
    obtain ⟨g, hg, rfl⟩ := hfm
    obtain ⟨i, hi⟩ := List.getElem?_of_mem hg
    have hi' : fs[i]? = some g := by simpa using hi
    have hlt : i < xs.length := by rw [hx]; exact (Array.getElem?_eq_some_iff.1 hi').1
    exact ⟨n, xs[i], by rw [hf i g hi', List.getElem?_eq_getElem hlt]⟩
  intro d
  induction d with
  | int k =>
    refine ⟨fun t fuel cs x hm h => ?_, fun t fs o cs hm hd => ?_⟩
    · simp only [matchD, Bool.and_eq_true] at hm
      obtain ⟨n, rfl, _, hw⟩ := DataW.trod_int (und_int hm.1) h
      exact ⟨⟨n, rfl, hw⟩, rfl⟩
    · rcases hd with h | ⟨a, r, h⟩ <;> cases h
  | bool =>
    refine ⟨fun t fuel cs x hm h => ?_, fun t fs o cs hm hd => ?_⟩
    · simp only [matchD, Bool.and_eq_true] at hm
      have hu : P.underlying t = some .bool := by
        have := hm.1
        unfold boB at this
        split at this <;> first | assumption | (cases this; done)
      obtain ⟨b, rfl, _⟩ := DataW.trod_bool hu h
      exact ⟨⟨b, rfl⟩, rfl⟩
    · rcases hd with h | ⟨a, r, h⟩ <;> cases h
  | sl d ih =>
    refine ⟨fun t fuel cs x hm h => ?_, fun t fs o cs hm hd => ?_⟩
    · simp only [matchD, Bool.and_eq_true] at hm
      obtain ⟨_, hm⟩ := hm
      split at hm <;> try (cases hm; done)
      rename_i e he
      simp only [Bool.and_eq_true, beq_iff_eq] at hm
      obtain ⟨hsz, hm⟩ := hm
      have hu : P.underlying t = some (.slice e) := by
        unfold elemS at he
        split at he <;> first | (cases he; assumption) | (cases he; done)
      rcases DataW.trod_slice hu h with ⟨rfl, _⟩ | ⟨a, len, cap, elems, rest, n, _, rfl, _, _, hl, hc, hlen, hel, _, _⟩
      · exact ⟨⟨none, 0, 0, rfl, Nat.le_refl _, Nat.zero_le _, [], rfl, fun i e h => by simp at h⟩, rfl⟩
      · refine ⟨⟨some a, len, cap, rfl, hl, hc, ?_⟩, rfl⟩
        have each : ∀ i, i < len → ∃ e', (w.cells? base (a.add (i * P.cellsOf e)) (P.cellsOf e)) = some e' ∧ okD w d e' ∧ e'.length = d.size := fun i hi => by
          have h1 := hel i hi
          rw [List.getElem?_eq_getElem (by omega : i < elems.length)] at h1
          obtain ⟨e', h2, h3⟩ := Option.bind_eq_some_iff.1 h1
          obtain ⟨h4, h5⟩ := ih.1 e _ _ _ hm h3
          exact ⟨e', h2, h4, h5⟩
        refine ⟨(List.range len).map fun i => ((w.cells? base (a.add (i * P.cellsOf e)) (P.cellsOf e)).getD []), by simp, fun i e' he' => ?_⟩
        have hi : i < len := by have := (List.getElem?_eq_some_iff.1 he').1; simpa using this
        obtain ⟨e2, h2, h4, h5⟩ := each i hi
        simp only [List.getElem?_map, List.getElem?_range hi, Option.map_some, Option.some.injEq] at he'
        rw [h2] at he'
        simp only [Option.getD_some] at he'
        subst he'
        refine ⟨h4, h5, a, rfl, fun j v hv => ?_⟩
        have := (cells?_get h2).2 j v hv
        rwa [Addr.add_add, hsz] at this
    · rcases hd with h | ⟨a, r, h⟩ <;> cases h
  | arr n d ih =>
    refine ⟨fun t fuel cs x hm h => ?_, fun t fs o cs hm hd => ?_⟩
    · simp only [matchD, Bool.and_eq_true] at hm
      obtain ⟨hct, hm⟩ := hm
      split at hm <;> try (cases hm; done)
      rename_i e he
      simp only [Bool.and_eq_true, beq_iff_eq] at hm hct
      obtain ⟨hsz, hm⟩ := hm
      have hu : P.underlying t = some (.array n e) := by
        unfold elemA at he
        split at he <;> try (cases he; done)
        rename_i m e' hu
        split at he <;> try (cases he; done)
        rename_i hmn
        cases he; subst hmn; exact hu
      obtain ⟨xs, m, _, _, hl, hx, hel⟩ := DataW.trod_array hu h
      refine ⟨⟨by rw [hl, hct], fun i hi => ?_⟩, by rw [hl, hct]; rfl⟩
      have h1 := hel i hi
      rw [List.getElem?_eq_getElem (by omega : i < xs.length), hsz] at h1
      exact (ih.1 e _ _ _ hm h1).1
    · rcases hd with h | ⟨a, r, h⟩ <;> cases h
  | fnil =>
    have hB : ∀ (t : TypeId) (fs : List (Nat × TypeId)) (o : Nat) (cs : List Value), matchD P .fnil t fs o = true → cs.length = P.cellsOf t → okD w .fnil (cs.drop o) ∧ o + Ds.fnil.size = P.cellsOf t := by
      intro t fs o cs hm hl
      simp only [matchD, Bool.and_eq_true, beq_iff_eq] at hm
      exact ⟨List.drop_eq_nil_of_le (by omega), by rw [hm.2]; rfl⟩
    refine ⟨fun t fuel cs x hm h => ?_, fun t fs o cs hm _ hl _ => hB t fs o cs hm hl⟩
    have hs : structB P t = true := by simp only [matchD, Bool.and_eq_true] at hm; exact hm.1.1
    obtain ⟨hl, _⟩ := str t fuel cs x hs h
    obtain ⟨h1, h2⟩ := hB t _ 0 cs hm hl
    exact ⟨by simpa using h1, by omega⟩
  | fcons d r ihd ihr =>
    have hB : ∀ (t : TypeId) (fs : List (Nat × TypeId)) (o : Nat) (cs : List Value), matchD P (.fcons d r) t fs o = true → cs.length = P.cellsOf t → (∀ f ∈ fs, ∃ n x', DataW.trod enc P w base sp held n f.2 ((cs.drop f.1).take (P.cellsOf f.2)) = some (x' : DataW H × List MemPlace)) →
        okD w (.fcons d r) (cs.drop o) ∧ o + (Ds.fcons d r).size = P.cellsOf t := by
      intro t fs o cs hm hl hf
      simp only [matchD, Bool.and_eq_true] at hm
      obtain ⟨hs, hm⟩ := hm
      split at hm <;> try (cases hm; done)
      rename_i f fs'
      simp only [Bool.and_eq_true, beq_iff_eq] at hm
      obtain ⟨⟨⟨⟨h1, h2⟩, hF⟩, h3⟩, h4⟩ := hm
      obtain ⟨n, x', h5⟩ := hf f List.mem_cons_self
      rw [h1, h2] at h5
      obtain ⟨h6, h7⟩ := ihd.1 _ _ _ _ h3 h5
      have hr : r = .fnil ∨ ∃ a r', r = .fcons a r' := by
        cases r with
        | fnil => exact .inl rfl
        | fcons a r' => exact .inr ⟨a, r', rfl⟩
        | _ => simp [Ds.isF] at hF
      obtain ⟨h8, h9⟩ := ihr.2 t fs' (o + d.size) cs h4 hr hl (fun g hg => hf g (List.mem_cons_of_mem _ hg))
      exact ⟨⟨h6, by rw [List.drop_drop]; exact h8⟩, by show o + (d.size + r.size) = _; omega⟩
    refine ⟨fun t fuel cs x hm h => ?_, fun t fs o cs hm _ hl hf => hB t fs o cs hm hl hf⟩
    have hs : structB P t = true := by simp only [matchD, Bool.and_eq_true] at hm; exact hm.1
    obtain ⟨hl, hf⟩ := str t fuel cs x hs h
    obtain ⟨h1, h2⟩ := hB t _ 0 cs hm hl hf
    exact ⟨by simpa using h1, by omega⟩
/-- What came in, by a description of its type. -/
theorem open_D {d : Ds} {t : TypeId} {v : Value} {q : DataW H} {ps : List MemPlace} (hm : matchD P d t (fieldsP P t) 0 = true) (h : DataW.Trod enc P w base sp held t v q ps) : okD w d v.cells.toList ∧ v.cells.toList.length = d.size := by
  obtain ⟨fuel, hf⟩ := h
  exact (open_both d).1 t fuel _ _ hm hf
end
section
variable {w : World}
theorem okD_ints {k : IntKind} {A : Option Addr} {n cap : Nat} (h : okD w (.sl (.int k)) [.slice A n cap]) : n ≤ cap ∧ cap ≤ maxLen ∧ ∃ l : List Int, SrW w 1 A n (iv k l) ∧ ∀ c ∈ l, (Lit.int k c).wf = true := by
  obtain ⟨A', n', cap', e, h1, h2, es, h3, h4⟩ := h
  simp only [List.cons.injEq, Value.slice.injEq, and_true] at e
  obtain ⟨rfl, rfl, rfl⟩ := e
  refine ⟨h1, h2, es.map (fun e => match e with | [.int _ z] => z | _ => 0), ⟨by rw [iv_len]; simp [h3], iv_one, fun j v hv => ?_⟩, fun c hc => ?_⟩
  · have hj : j < es.length := by have := (List.getElem?_eq_some_iff.1 hv).1; rw [iv_len] at this; simpa using this
    obtain ⟨⟨z, e1, e2⟩, _, a, ha, hcell⟩ := h4 j es[j] (List.getElem?_eq_getElem hj)
    have hv2 : v = .int k z := by
      rw [iv_get (by simpa using hj)] at hv
      injection hv with hv
      rw [← hv]; congr 1
      rw [List.getD_eq_getElem?_getD, List.getElem?_map, List.getElem?_eq_getElem hj, e1]; rfl
    have h0 := hcell 0 v (by rw [e1, hv2]; rfl)
    obtain ⟨a0, e0⟩ : ∃ a0, es[0]? = some a0 := ⟨_, List.getElem?_eq_getElem (by omega)⟩
    obtain ⟨⟨z0, e10, _⟩, _, a', ha', hcell0⟩ := h4 0 _ e0
    rw [ha] at ha'; injection ha' with ha'; subst ha'
    have hsp := spot_none (hcell0 0 (.int k z0) (by rw [e10]; rfl))
    obtain ⟨b, o, s⟩ := a
    simp only [Nat.zero_mul, Nat.zero_add, Addr.add, if_true] at hsp
    subst hsp
    refine ⟨b, o, ha, ?_⟩
    rw [add_none] at h0
    simpa [Ds.size] using h0
  · obtain ⟨e, he, rfl⟩ := List.mem_map.1 hc
    obtain ⟨i, hi⟩ := List.getElem?_of_mem he
    obtain ⟨⟨z, e1, e2⟩, _⟩ := h4 i e hi
    rw [e1]; exact e2
theorem okD_arr {k : IntKind} {n : Nat} {cs : List Value} (h : okD w (.arr n (.int k)) cs) : ∃ l : List Int, cs = iv k l ∧ l.length = n ∧ ∀ c ∈ l, (Lit.int k c).wf = true := by
  obtain ⟨h1, h2⟩ := h
  have h1 : cs.length = n := by simpa [Ds.size] using h1
  have hc : ∀ i, i < n → ∃ z, cs[i]? = some (.int k z) ∧ (Lit.int k z).wf = true := fun i hi => by
    obtain ⟨z, e1, e2⟩ := h2 i hi
    refine ⟨z, ?_, e2⟩
    have : ((cs.drop (i * Ds.size (.int k))).take (Ds.size (.int k)))[0]? = some (.int k z) := by rw [e1]; rfl
    simpa [Ds.size] using this
  refine ⟨cs.map (fun v => match v with | .int _ z => z | _ => 0), ?_, by simp [h1], fun c hcm => ?_⟩
  · apply List.ext_getElem?
    intro i
    by_cases hi : i < n
    · obtain ⟨z, e1, _⟩ := hc i hi
      simp [iv, e1]
    · rw [List.getElem?_eq_none (by omega), List.getElem?_eq_none (by simp [iv]; omega)]
  · obtain ⟨v, hv1, rfl⟩ := List.mem_map.1 hcm
    obtain ⟨i, hi⟩ := List.getElem?_of_mem hv1
    obtain ⟨z, e1, e2⟩ := hc i (by have := (List.getElem?_eq_some_iff.1 hi).1; omega)
    rw [e1] at hi
    injection hi with hi; subst hi
    exact e2
end
end Go.X

/- Maps with whole numbers as keys; function values. -/
namespace Go.X
open Go.RowKit
abbrev Ent := Int × Value × Nat
def entL (k : IntKind) (m : List Ent) : List MapEntry := m.map fun e => ⟨.int k e.1, e.2.1, e.2.2⟩
def mapO (k : IntKind) (m : List Ent) (clock : Nat) : Obj := .map (entL k m).toArray clock
def mfind : List Ent → Int → Nat → Option (Nat × Value)
  | [], _, _ => none
  | e :: m, x, i => if e.1 = x then some (i, e.2.1) else mfind m x (i + 1)
def mget (m : List Ent) (x : Int) : Option Value := (mfind m x 0).map (·.2)
def mput (m : List Ent) (clock : Nat) (x : Int) (v : Value) : List Ent := match mfind m x 0 with
  | some (i, _) => m.modify i fun e => (e.1, v, e.2.2)
  | none => m ++ [(x, v, clock)]
def mclk (m : List Ent) (clock : Nat) (x : Int) : Nat := match mfind m x 0 with
  | some _ => clock
  | none => clock + 1
theorem findNow_ents {k : IntKind} {x : Int} : ∀ (m : List Ent) (i : Nat), Instr.findNow (.int k) (.int k x) (entL k m) i = some (mfind m x i)
  | [], i => rfl
  | e :: m, i => by
    have ih := findNow_ents (k := k) (x := x) m (i + 1)
    simp only [entL, List.map_cons, Instr.findNow, Instr.sameNow, if_true, mfind] at ih ⊢
    by_cases h : e.1 = x
    · subst h; simp
    · have h2 : (x == e.1) = false := by simp; exact fun e' => h e'.symm
      simp only [h2, h, if_false]; exact ih
theorem mfind_shift {x : Int} : ∀ (m : List Ent) (i : Nat), mfind m x i = (mfind m x 0).map fun q => (q.1 + i, q.2)
  | [], i => rfl
  | e :: m, i => by
    unfold mfind
    by_cases h : e.1 = x
    · simp [h]
    · simp only [h, if_false]
      rw [mfind_shift m (i + 1), mfind_shift m (0 + 1)]
      cases mfind m x 0 with
      | none => rfl
      | some q => simp; omega
theorem mget_cons {e : Ent} {m : List Ent} {x : Int} : mget (e :: m) x = if e.1 = x then some e.2.1 else mget m x := by
  unfold mget
  rw [show mfind (e :: m) x 0 = if e.1 = x then some (0, e.2.1) else mfind m x (0 + 1) from rfl]
  by_cases h : e.1 = x
  · simp [h]
  · simp only [h, if_false]; rw [mfind_shift m (0 + 1)]; cases mfind m x 0 <;> rfl
theorem mput_cons {e : Ent} {m : List Ent} {c : Nat} {x : Int} {v : Value} : mput (e :: m) c x v = if e.1 = x then (e.1, v, e.2.2) :: m else e :: mput m c x v := by
  unfold mput
  rw [show mfind (e :: m) x 0 = if e.1 = x then some (0, e.2.1) else mfind m x (0 + 1) from rfl]
  by_cases h : e.1 = x
  · simp [h]
  · simp only [h, if_false]
    rw [mfind_shift m (0 + 1)]
    cases mfind m x 0 with
    | none => rfl
    | some q => simp
theorem mget_put {m : List Ent} {c : Nat} {x y : Int} {v : Value} : mget (mput m c x v) y = if x = y then some v else mget m y := by
  induction m with
  | nil => simp [mput, mfind, mget_cons]
  | cons e m ih =>
    rw [mput_cons]
    by_cases h : e.1 = x
    · rw [if_pos h, mget_cons, mget_cons]
      by_cases h2 : x = y
      · simp [h, h2]
      · simp [h, h2]
    · rw [if_neg h, mget_cons, mget_cons, ih]
      by_cases h2 : x = y
      · subst h2; simp [h]
      · simp [h2]
def mapT (P : Program) (t : TypeId) (k : IntKind) : Option TypeId := match P.underlying t with
  | some (.map kt e) => if inB' P kt k then some e else none
  | _ => none
theorem mapT_open {P : Program} {t e : TypeId} {k : IntKind} (h : mapT P t k = some e) : ∃ kt, P.underlying t = some (.map kt e) ∧ P.underlying kt = some (.int k) := by
  unfold mapT at h
  split at h <;> try (cases h; done)
  rename_i kt e' hu
  split at h <;> try (cases h; done)
  rename_i hk
  cases h
  refine ⟨kt, hu, ?_⟩
  unfold inB' at hk
  split at hk <;> try (cases hk; done)
  rename_i k' hu'
  simp only [beq_iff_eq] at hk
  subst hk; exact hu'
section
variable {c : Cx} {Q : Post} {S S1 : Slots} {L L1 L' Lr Lx : List (Nat × Blk)} {ops : Array Oper} {d : Option Tmp} {t : Tmp} {ty T T' : TypeId} {pos : String} {af : Array Edge} {rest : List Oper} {op : Op} {x y z : Operand} {v : Value} {g : Option (Nat × Bool)} {i j : Nat} {p : Plan}
theorem obj_at {b : Nat} {o : Obj} (h : (b, Blk.obj o) ∈ L) {a : Act} {w : World} (st : St c S L a w) : w.heap[b]? = some o := (st.hp.held _ h).2
theorem run_findInt {P : Program} {w : World} {kt : TypeId} {k : IntKind} {q : Int} {m : List Ent} (hk : P.underlying kt = some (.int k)) : (Instr.findKey kt (.int k q) (entL k m)).run P w = .ok (mfind m q 0) w := by
  unfold Instr.findKey
  simp [run_underlying hk, findNow_ents]
theorem run_checkInt {P : Program} {w : World} {kt : TypeId} {k : IntKind} {q : Int} {em : Bool} (hk : P.underlying kt = some (.int k)) : (Instr.checkKey em 10000 kt (.int k q)).run P w = .ok () w := by
  rw [show (10000 : Nat) = 9999 + 1 from rfl]
  unfold Instr.checkKey
  simp [run_underlying hk]
theorem V_lookupS {b : Nat} {k : IntKind} {q : Int} {m : List Ent} {clock : Nat} {e : TypeId} (hm : mget m q = some v) (hx : ev S x = some (.map (some b))) (hy : ev S y = some (.int k q)) (hb : (b, Blk.obj (mapO k m clock)) ∈ L) (ht : mapT c.P T k = some e) : Val c S L (.lookup T x y true) ty (.tuple #[v, .bool true]) := fun a w st => by
  have e1 := st.sl.ev hx; have e2 := st.sl.ev hy
  obtain ⟨kt, hu, hk⟩ := mapT_open ht
  have hh : w.heap[b]? = some (.map (entL k m).toArray clock) := obj_at hb st
  have hg := Go.MapKept.run_getObj_map (P := c.P) hh
  unfold mget at hm
  obtain ⟨⟨i, v'⟩, h1, h2⟩ := Option.map_eq_some_iff.1 hm
  simp only at h2; subst h2
  simp [ex, execOp, e1, e2, Instr.lookup, run_underlying hu, hg, run_checkInt hk, run_findInt hk, h1]
theorem V_lookupN {b : Nat} {k : IntKind} {q : Int} {m : List Ent} {clock : Nat} {e : TypeId} (zv : Value) (hm : mget m q = none) (hx : ev S x = some (.map (some b))) (hy : ev S y = some (.int k q)) (hb : (b, Blk.obj (mapO k m clock)) ∈ L) (ht : mapT c.P T k = some e) (hz : (c.P.info? e).bind (·.zero) = some zv) : Val c S L (.lookup T x y true) ty (.tuple #[zv, .bool false]) := fun a w st => by
  have e1 := st.sl.ev hx; have e2 := st.sl.ev hy
  obtain ⟨kt, hu, hk⟩ := mapT_open ht
  have hh : w.heap[b]? = some (.map (entL k m).toArray clock) := obj_at hb st
  have hg := Go.MapKept.run_getObj_map (P := c.P) hh
  obtain ⟨i, hi, hz'⟩ := Option.bind_eq_some_iff.1 hz
  have h1 : mfind m q 0 = none := by unfold mget at hm; exact Option.map_eq_none_iff.1 hm
  simp [ex, execOp, e1, e2, Instr.lookup, run_underlying hu, hg, run_checkInt hk, run_findInt hk, h1, zeroValue, run_typeInfo _ hi, hz']
theorem V_lookup1 {b : Nat} {k : IntKind} {q : Int} {m : List Ent} {clock : Nat} {e : TypeId} (zv : Value) (hx : ev S x = some (.map (some b))) (hy : ev S y = some (.int k q)) (hb : (b, Blk.obj (mapO k m clock)) ∈ L) (ht : mapT c.P T k = some e) (hz : (c.P.info? e).bind (·.zero) = some zv) : Val c S L (.lookup T x y false) ty ((mget m q).getD zv) := fun a w st => by
  have e1 := st.sl.ev hx; have e2 := st.sl.ev hy
  obtain ⟨kt, hu, hk⟩ := mapT_open ht
  have hh : w.heap[b]? = some (.map (entL k m).toArray clock) := obj_at hb st
  have hg := Go.MapKept.run_getObj_map (P := c.P) hh
  obtain ⟨i, hi, hz'⟩ := Option.bind_eq_some_iff.1 hz
  unfold mget
  cases h1 : mfind m q 0 with
  | none => simp [ex, execOp, e1, e2, Instr.lookup, run_underlying hu, hg, run_checkInt hk, run_findInt hk, h1, zeroValue, run_typeInfo _ hi, hz']
  | some r => simp [ex, execOp, e1, e2, Instr.lookup, run_underlying hu, hg, run_checkInt hk, run_findInt hk, h1]
theorem E_makeMap (ht : ∃ e, mapT c.P T .i64 = some e) : Eff c S L (.makeMap T none) ty fun v M => ∃ b, v = .map (some b) ∧ M = (b, .obj (mapO .i64 [] 0)) :: L := fun a w st => by
  refine ⟨_, _, _, .inl ?_, st.hp.alloc (o := .map #[] 0) (k := .obj (mapO .i64 [] 0)) ⟨fun _ _ _ h => (by cases h), rfl⟩, w.heap.size, rfl, rfl⟩
  simp [ex, execOp, Instr.makeMap]
theorem mfind_key {m : List Ent} {q : Int} : ∀ {i : Nat} {j : Nat} {v : Value}, mfind m q i = some (j, v) → ∃ e, m[j - i]? = some e ∧ e.1 = q ∧ i ≤ j := by
  induction m with
  | nil => intro i j v h; cases h
  | cons e m ih =>
    intro i j v h
    unfold mfind at h
    split at h
    · rename_i he
      cases h
      exact ⟨e, by simp, he, Nat.le_refl _⟩
    · obtain ⟨e', h1, h2, h3⟩ := ih h
      exact ⟨e', by rw [show j - i = (j - (i + 1)) + 1 by omega, List.getElem?_cons_succ]; exact h1, h2, by omega⟩
theorem E_mapUpdate {b : Nat} {k : IntKind} {q : Int} {m : List Ent} {clock : Nat} {e : TypeId} (hx : ev S x = some (.map (some b))) (hy : ev S y = some (.int k q)) (hv : ev S z = some v) (hu : Upd b (.obj (mapO k (mput m clock q v) (mclk m clock q))) L (.obj (mapO k m clock)) L') (ht : mapT c.P T k = some e) :
    Eff c S L (.mapUpdate T x y z) ty fun u M => u = undef ∧ M = L' := fun a w st => by
  have e1 := st.sl.ev hx; have e2 := st.sl.ev hy; have e3 := st.sl.ev hv
  obtain ⟨kt, hun, hk⟩ := mapT_open ht
  have hh : w.heap[b]? = some (.map (entL k m).toArray clock) := obj_at hu.mem st
  have hg := Go.MapKept.run_getObj_map (P := c.P) hh
  have fin : ∀ o : Obj, o = mapO k (mput m clock q v) (mclk m clock q) → HP c.w0 { w with heap := w.heap.setIfInBounds b o } c.O L' := fun o ho => by
    have hlt : b < w.heap.size := (Array.getElem?_eq_some_iff.1 hh).1
    refine st.hp.upd hu rfl rfl rfl (by simp) (fun i hi => by simp [Array.getElem?_setIfInBounds_ne (Ne.symm hi)]) ⟨fun _ _ _ h => by simp [mapO] at h, ?_⟩
    subst ho
    simp [hlt]
  cases h1 : mfind m q 0 with
  | none =>
    refine ⟨undef, _, L', .inr ⟨?_, rfl⟩, fin (mapO k (mput m clock q v) (mclk m clock q)) rfl, rfl, rfl⟩
    have hpush : ((entL k m).toArray.push { key := .int k q, val := v, born := clock }) = (entL k (mput m clock q v)).toArray := by simp [mput, h1, entL]
    simp only [List.push_toArray] at hpush
    simp [ex, execOp, e1, e2, e3, Instr.mapUpdate, run_underlying hun, hg, run_checkInt hk, run_findInt hk, h1, Go.MapKept.run_setObj_map (P := c.P) _ hh, hpush, mapO, mclk]
  | some r =>
    obtain ⟨i, v'⟩ := r
    obtain ⟨en, h2, h3, _⟩ := mfind_key h1
    simp only [Nat.sub_zero] at h2
    refine ⟨undef, _, L', .inr ⟨?_, rfl⟩, fin (mapO k (mput m clock q v) (mclk m clock q)) rfl, rfl, rfl⟩
    have hk2 : ((entL k m)[i]?.map (fun x => x.key)).getD (.int k q) = .int k q := by
      simp [entL, h2, h3]
    have hstay : (Instr.keyThatStays (.int k q) (.int k q)).run c.P w = .ok (.int k q) w := by simp [Instr.keyThatStays, Instr.sameBits]
    have hmod : ((entL k m).modify i fun e => { key := .int k q, val := v, born := e.born }) = entL k (mput m clock q v) := by
      unfold mput
      rw [h1]
      simp only [entL]
      apply List.ext_getElem?
      intro j
      simp only [List.getElem?_map, List.getElem?_modify]
      by_cases hj : i = j
      · subst hj; simp [h2, h3]
      · cases m[j]? <;> simp [hj]
    simp [ex, execOp, e1, e2, e3, Instr.mapUpdate, run_underlying hun, hg, run_checkInt hk, run_findInt hk, h1, hk2, hstay, Go.MapKept.run_setObj_map (P := c.P) _ hh, hmod, mapO, mclk]
/-! ### function values -/
theorem V_makeFunc {fn : Fn} {first cap : Array Operand} {fs cs : List Value} (h1 : evs S first.toList = some fs := by exact rfl) (h2 : evs S cap.toList = some cs := by exact rfl) : Val c S L (.makeFunc fn first cap) ty (.func fn fs.toArray cs.toArray) := fun a w st => by
  have e1 := evs_eq st.sl h1
  have e2 := evs_eq st.sl h2
  have f1 : first.map a.eval = fs.toArray := by rw [← e1, ← Array.toList_inj]; simp
  have f2 : cap.map a.eval = cs.toArray := by rw [← e2, ← Array.toList_inj]; simp
  simp [ex, execOp, Instr.makeFunc, f1, f2]
theorem C_fnV {f : FuncId} {xc : Operand} {xs : Array Operand} {ats : Array TypeId} {vs : List Value} {fs cs : Array Value} {R : Value → List (Nat × Blk) → Prop} (hx : ev S xc = some (.func (.func f) fs cs)) (ha : evs S xs.toList = some vs) (hf : fnB c.P f = true)
    (hc : ∀ w, HP c.w0 w c.O L → Calls c.P f (fs.toList ++ vs ++ cs.toList).toArray w fun e w' => ∃ v L', e = .returned v ∧ HP c.w0 w' c.O L' ∧ R v L') : Cal c S L (.call ⟨.value xc, xs, ats⟩) ty R := fun a w st => by
  refine ⟨f, _, ?_, hc w st.hp⟩
  have := evs_eq st.sl ha
  have e : xs.map a.eval = vs.toArray := by rw [← this, ← Array.toList_inj]; simp
  have e2 := st.sl.ev hx
  have e3 : (fs ++ vs.toArray ++ cs) = (fs.toList ++ vs ++ cs.toList).toArray := by apply Array.ext'; simp
  simp only [ex, execOp, resolve, e, e2, Deferred.ofValue, invoke]
  simp only [Sem.run_bind, Sem.run_pure, Result.andThen_ok, e3]
  exact run_callFunc hf
theorem cpV {f : FuncId} {xc : Operand} {xs : Array Operand} {ats : Array TypeId} {vs : List Value} {fs cs : Array Value} (hx : ev S xc = some (.func (.func f) fs cs)) (ha : evs S xs.toList = some vs) (hc : ∀ w, HP c.w0 w c.O L → Calls c.P f (fs.toList ++ vs ++ cs.toList).toArray w fun e w' => e = .returned v ∧ HP w w' [] []) (k : WL c ops Q rest (putS d v S) L)
    (hf : fnB c.P f = true := by kernel_rfl) (hd : inB c.n d = true := by exact rfl) : WL c ops Q (⟨d, .call ⟨.value xc, xs, ats⟩, ty, pos, af, none⟩ :: rest) S L :=
  WL.cal hd (C_fnV (R := fun u M => u = v ∧ M = L) hx ha hf fun w hp => (hc w hp).mono fun _ _ ⟨he, hp'⟩ => ⟨v, L, he, hp.trans0 hp', rfl, rfl⟩) fun u M ⟨h1, h2⟩ => by subst h1; subst h2; exact k
theorem cgV {ι : Type} {f : FuncId} {xc : Operand} {xs : Array Operand} {ats : Array TypeId} {vs : List Value} {fs cs : Array Value} {bs : List Nat} {V : ι → Value} {M : ι → List (Nat × Blk)} {A : ι → Prop} (hx : ev S xc = some (.func (.func f) fs cs)) (ha : evs S xs.toList = some vs)
    (hc : ∀ w, HP c.w0 w c.O L → Calls c.P f (fs.toList ++ vs ++ cs.toList).toArray w fun e w' => ∃ r, A r ∧ e = .returned (V r) ∧ HP w w' bs (M r)) (k : ∀ r, A r → WL c ops Q rest (putS d (V r) S) (M r ++ Lr))
    (hdel : Dels bs L Lr := by exact dels) (hf : fnB c.P f = true := by kernel_rfl) (hd : inB c.n d = true := by exact rfl) : WL c ops Q (⟨d, .call ⟨.value xc, xs, ats⟩, ty, pos, af, none⟩ :: rest) S L :=
  WL.cal hd (C_fnV (R := fun u N => ∃ r, A r ∧ u = V r ∧ N = M r ++ Lr) hx ha hf fun w hp => (hc w hp).mono fun _ _ ⟨r, hr, he, hp'⟩ => ⟨V r, M r ++ Lr, he, hp.trans hdel hp', r, hr, rfl, rfl⟩) fun u N ⟨r, hr, h1, h2⟩ => by subst h1; subst h2; exact k r hr
theorem dcgV {ι : Type} {f : FuncId} {xc : Operand} {xs : Array Operand} {ats : Array TypeId} {vs : List Value} {fs cs : Array Value} {bs : List Nat} {V : ι → Value} {M : ι → List (Nat × Blk)} {A : ι → Prop} (ho : ops[i]? = some ⟨d, .call ⟨.value xc, xs, ats⟩, ty, pos, af, g⟩) (hx : ev S xc = some (.func (.func f) fs cs)) (ha : evs S xs.toList = some vs)
    (hc : ∀ w, HP c.w0 w c.O L → Calls c.P f (fs.toList ++ vs ++ cs.toList).toArray w fun e w' => ∃ r, A r ∧ e = .returned (V r) ∧ HP w w' bs (M r)) (k : ∀ r, A r → WD c ops Q Lr p (putS d (V r) S) (M r ++ Lx))
    (hg : Gd ops S g := by exact trivial) (hdel : Dels bs L Lx := by exact dels) (hf : fnB c.P f = true := by kernel_rfl) (hd : inB c.n d = true := by exact rfl) (hs : Lr.Sublist L := by exact subl) (hm : ∀ p ∈ Lr, p ∈ Lx := by simp) : WO c ops Q Lr i p S L :=
  WO.calG ho hg hd hs (C_fnV (R := fun u N => ∃ r, A r ∧ u = V r ∧ N = M r ++ Lx) hx ha hf fun w hp => (hc w hp).mono fun _ _ ⟨r, hr, he, hp'⟩ => ⟨V r, M r ++ Lx, he, hp.trans hdel hp', r, hr, rfl, rfl⟩) fun u N ⟨r, hr, h1, h2⟩ => by subst h1; subst h2; exact ⟨fun q hq => List.mem_append_right _ (hm q hq), k r hr⟩
theorem HP.start1 {w : World} {b : Nat} {k : Blk} (h : k.Is w.heap[b]?) : HP w w [b] [(b, k)] :=
  HP.start (by intro p hp; simp only [List.mem_singleton] at hp; subst hp; exact h) (by simp) (by simp)
theorem AtW.neObj {w : World} {b b' : Nat} {cs : List Seg} {o : Obj} (h : AtW w b cs) (h' : (Blk.obj o).Is w.heap[b']?) : b ≠ b' := by
  rintro rfl
  obtain ⟨_, t, fz, h⟩ := h
  obtain ⟨h1, h2⟩ := h'
  rw [h] at h2; injection h2 with h2
  exact h1 _ _ _ h2.symm
/-- Short forms for maps. -/
theorem omk (K : ∀ b, WL c ops Q rest ((t, .map (some b)) :: S) ((b, .obj (mapO .i64 [] 0)) :: L)) (ht : (mapT c.P T .i64).isSome = true := by kernel_rfl) (hd : Nat.blt t c.n = true := by exact rfl) : WL c ops Q (⟨some t, .makeMap T none, ty, pos, af, none⟩ :: rest) S L :=
  WL.eff (d := some t) hd (E_makeMap (Option.isSome_iff_exists.1 ht)) fun v M ⟨b, hv, hM⟩ => by subst hv; subst hM; exact K b
theorem omu {b : Nat} {k : IntKind} {q : Int} {m : List Ent} {clock : Nat} (K : WL c ops Q rest S L') (hx : ev S x = some (.map (some b)) := by exact rfl) (hy : ev S y = some (.int k q) := by exact rfl) (hv : ev S z = some v := by exact rfl) (hu : Upd b (.obj (mapO k (mput m clock q v) (mclk m clock q))) L (.obj (mapO k m clock)) L' := by exact upd) (ht : (mapT c.P T k).isSome = true := by kernel_rfl) :
    WL c ops Q (⟨none, .mapUpdate T x y z, ty, pos, af, none⟩ :: rest) S L := by
  obtain ⟨e, he⟩ := Option.isSome_iff_exists.1 ht
  exact WL.eff (d := none) rfl (E_mapUpdate hx hy hv hu he) fun v M ⟨_, hM⟩ => by subst hM; exact K
theorem dmu {b : Nat} {k : IntKind} {q : Int} {m : List Ent} {clock : Nat} (ho : ops[i]? = some ⟨none, .mapUpdate T x y z, ty, pos, af, g⟩) (K : WD c ops Q Lr p S L') (hg : Gd ops S g := by exact trivial) (hx : ev S x = some (.map (some b)) := by exact rfl) (hy : ev S y = some (.int k q) := by exact rfl) (hv : ev S z = some v := by exact rfl) (hu : Upd b (.obj (mapO k (mput m clock q v) (mclk m clock q))) L (.obj (mapO k m clock)) L' := by exact upd) (ht : (mapT c.P T k).isSome = true := by kernel_rfl) (hs : Lr.Sublist L := by exact subl) (hm : ∀ p ∈ Lr, p ∈ L' := by simp) : WO c ops Q Lr i p S L := by
  obtain ⟨e, he⟩ := Option.isSome_iff_exists.1 ht
  exact WO.effG ho hg (d := none) rfl hs (E_mapUpdate hx hy hv hu he) fun v M ⟨_, hM⟩ => by subst hM; exact ⟨hm, K⟩
theorem vlkS {b : Nat} {k : IntKind} {q : Int} {m : List Ent} {clock : Nat} (hm : mget m q = some v) (hx : ev S x = some (.map (some b)) := by exact rfl) (hy : ev S y = some (.int k q) := by exact rfl) (hb : (b, Blk.obj (mapO k m clock)) ∈ L := by exact mm) (ht : (mapT c.P T k).isSome = true := by kernel_rfl) : Val c S L (.lookup T x y true) ty (.tuple #[v, .bool true]) := by
  obtain ⟨e, he⟩ := Option.isSome_iff_exists.1 ht
  exact V_lookupS hm hx hy hb he
theorem vlkN {b : Nat} {k : IntKind} {q : Int} {m : List Ent} {clock : Nat} (e : TypeId) (zv : Value) (hm : mget m q = none) (hx : ev S x = some (.map (some b)) := by exact rfl) (hy : ev S y = some (.int k q) := by exact rfl) (hb : (b, Blk.obj (mapO k m clock)) ∈ L := by exact mm) (ht : mapT c.P T k = some e := by kernel_rfl) (hz : (c.P.info? e).bind (·.zero) = some zv := by kernel_rfl) : Val c S L (.lookup T x y true) ty (.tuple #[zv, .bool false]) := V_lookupN zv hm hx hy hb ht hz
end
end Go.X

/- Rows of integers in the midst of a block. -/
namespace Go.X
open Go.RowKit
section
variable {c : Cx} {Q : Post} {S S1 : Slots} {L L1 L' Lr Lx : List (Nat × Blk)} {ops : Array Oper} {d : Option Tmp} {t : Tmp} {ty T T' : TypeId} {pos : String} {af : Array Edge} {rest : List Oper} {op : Op} {x y z : Operand} {v : Value} {g : Option (Nat × Bool)} {i j : Nat} {p : Plan}
/-- An array's element, of a pointer into a block. -/
theorem viAP {ix : Operand} {b o j : Nat} {k : IntKind} (n : Nat) (ht : arB c.P T n 1 = true := by kernel_rfl) (hx : ev S x = some (.pointer (some ⟨b, o, none⟩)) := by exact rfl) (hi : ev S ix = some (.int k (j : Int)) := by exact rfl) (hj : j < n := by exact sc) : Val c S L (.indexAddr T x ix) ty (.pointer (some ⟨b, o + j, none⟩)) := by
  have := V_indexAddrA (c := c) (L := L) (ty := ty) n 1 ht hx hi (by omega) (by omega); simpa using this
theorem viAPZ {ix : Operand} {b o : Nat} {k : IntKind} {q : Int} (n : Nat) (ht : arB c.P T n 1 = true := by kernel_rfl) (hx : ev S x = some (.pointer (some ⟨b, o, none⟩)) := by exact rfl) (hi : ev S ix = some (.int k q) := by exact rfl) (hj : 0 ≤ q ∧ q < n := by omega) : Val c S L (.indexAddr T x ix) ty (.pointer (some ⟨b, o + q.toNat, none⟩)) := by
  have := V_indexAddrA (c := c) (L := L) (ty := ty) n 1 ht hx hi hj.1 hj.2; simpa using this
end
end Go.X

/- Guards beside an operation that did not run. -/
namespace Go.X
open Go.RowKit
theorem yielded_undef {ops : Array Oper} {n : Nat} {a : Act} {S : Slots} (h : Sl n a S) {j : Nat} (hg : guardOf ops S j = some undef) : yielded ops a.tmps j = none := by
  unfold guardOf at hg
  unfold yielded
  cases hd : (ops[j]?).bind (·.dst) with
  | none => rw [hd] at hg; cases hg
  | some t =>
    rw [hd] at hg
    have := h.get t _ hg
    simp [this, undef]
section
variable {c : Cx} {Q : Post} {S S1 : Slots} {L L1 L' Lr : List (Nat × Blk)} {ops : Array Oper} {d : Option Tmp} {t : Tmp} {ty T T' : TypeId} {pos : String} {af : Array Edge} {rest : List Oper} {op : Op} {i j : Nat} {b : Bool} {p : Plan}
theorem onu (hg : guardOf ops S j = some undef) (k : WL c ops Q rest ((t, undef) :: S) L) (hd : Nat.blt t c.n = true := by exact rfl) : WL c ops Q (⟨some t, op, ty, pos, af, some (j, b)⟩ :: rest) S L := fun a w st => by
  refine wpList_skip ?_ (k _ _ ⟨st.sl.put (blt_lt hd) _, st.hp⟩)
  have := yielded_undef st.sl hg
  simp [Region.wanted, this]
end
end Go.X

/- Rows that grow. -/
namespace Go.X
open Go.RowKit
structure RowB where
  b : Nat
  n : Nat
  cap : Nat
  rs : List Value
  l : List Int
@[simp] def RowB.v (r : RowB) : Value := (.slice (some ⟨r.b, 0, none⟩) r.n r.cap)
def RowB.blk (T : TypeId) (r : RowB) : Nat × Blk := (r.b, .cells [(r.n, iv .u8 r.l), (r.cap - r.n, r.rs)] T)
structure GR where
  o : Gr
  rs : List RowB
def GR.n (g : GR) : Nat := g.rs.length
def GR.ll (g : GR) : List (List Int) := g.rs.map (·.l)
def gRL (T E : TypeId) (g : GR) : List (Nat × Blk) := gL g.o g.rs.length (g.rs.map RowB.v) E ++ g.rs.map (RowB.blk T)
def GR.OK (g : GR) : Prop := GrOK g.o g.rs.length ∧ ∀ r ∈ g.rs, r.l.length = r.n ∧ r.n ≤ r.cap ∧ ∀ x ∈ r.l, 0 ≤ x ∧ x ≤ 255
def GR.nil : GR := ⟨none, []⟩
theorem GR.nil_ok : GR.nil.OK := ⟨rfl, by simp [GR.nil]⟩
/-- A slice's cells are no object's. -/
theorem HP.soldO {w0 w : World} {m : Nat} {o : Obj} {L : List (Nat × Blk)} {s : Nat} {A : Option Addr} {n : Nat} {xs : List Value} (hp : HP w0 w [m] L) (h : SrW w0 s A n xs) (hm : (Blk.obj o).Is w0.heap[m]?) : SrW w s A n xs := by
  refine ⟨h.1, h.2.1, fun j v hv => ?_⟩
  refine (h.step hp ?_).2.2 j v hv
  rintro b q rfl hb
  obtain rfl := List.mem_singleton.1 hb
  obtain ⟨b', o', e, hc⟩ := h.2.2 j v hv
  obtain ⟨h1, h2⟩ := hm
  injection e with e; injection e with e1 e2; subst e1
  unfold World.cell? at hc
  simp only [h2] at hc
  split at hc
  · rename_i hq; injection hq with hq; exact h1 _ _ _ hq
  · cases hc
section
variable {c : Cx} {Q : Post} {S S1 : Slots} {L L1 L2 L' Lr : List (Nat × Blk)} {ops : Array Oper} {d : Option Tmp} {t : Tmp} {ty T T' : TypeId} {pos : String} {af : Array Edge} {rest : List Oper} {op : Op} {x y : Operand} {i j : Nat} {p : Plan}
/-- A row appended. -/
theorem oapR {g : GR} {r : RowB} {A : Option Addr} {cap2 : Nat} (T1 E by' : Nat)
    (K : ∀ o', GR.OK ⟨o', g.rs ++ [r]⟩ → WL c ops Q rest ((t, .slice (gA o') (g.rs ++ [r]).length (gC o')) :: S) (L2 ++ gRL T1 E ⟨o', g.rs ++ [r]⟩))
    (ht : slE c.P T E by' = true := by kernel_rfl) (hx : ev S x = some (.slice (gA g.o) g.rs.length (gC g.o)) := by exact rfl) (hy : ev S y = some (.slice A 1 cap2) := by exact rfl) (hD : DelL (gRL T1 E g) L L1 := by exact dell) (hE : DelE r.b (r.blk T1).2 L1 L2 := by repeat (first | exact DelE.here rfl _ | apply DelE.there)) (hg : g.OK := by assumption)
    (hr : r.l.length = r.n ∧ r.n ≤ r.cap ∧ ∀ x ∈ r.l, 0 ≤ x ∧ x ≤ 255)
    (hs : Sr c L 1 A 1 [r.v] := by intro w hp; exact sw) (hb : (g.rs.length + 1) * by' ≤ 140737488355328 := by omega) (hl : g.rs.length + 1 ≤ 9223372036854775807 := by omega) (hd : Nat.blt t c.n = true := by exact rfl) :
    WL c ops Q (⟨some t, .call ⟨.builtin .append, #[x, y], #[T, T]⟩, ty, pos, af, none⟩ :: rest) S L := by
  have hp1 : L.Perm (gL g.o g.rs.length (g.rs.map RowB.v) E ++ (g.rs.map (RowB.blk T1) ++ L1)) := by
    have := hD.perm; unfold gRL at this; rwa [List.append_assoc] at this
  have hs' : Sr c (gL g.o g.rs.length (g.rs.map RowB.v) E ++ (g.rs.map (RowB.blk T1) ++ L1)) 1 A 1 [r.v] := fun w hp => hs w (hp.perm hp1)
  refine WL.eff (d := some t) hd ((E_appG (Lr := g.rs.map (RowB.blk T1) ++ L1) E by' ht hx hy (by simp) hg.1 (.here _) hs' hb hl).perm hp1) fun v M ⟨o', h1, _, hv, hM⟩ => ?_
  subst hv; subst hM
  have hK := K o' (show GR.OK _ from ⟨by simpa using h1, fun q hq => by
    rcases List.mem_append.1 hq with hq | hq
    · exact hg.2 q hq
    · rw [List.mem_singleton.1 hq]; exact hr⟩)
  rw [List.length_append, List.length_singleton] at hK
  have hp2 : (g.rs.map (RowB.blk T1) ++ L1 ++ gL o' (g.rs.length + 1) (g.rs.map RowB.v ++ [r.v]) E).Perm (L2 ++ gRL T1 E ⟨o', g.rs ++ [r]⟩) := by
    have e1 : gRL T1 E ⟨o', g.rs ++ [r]⟩ = gL o' (g.rs.length + 1) (g.rs.map RowB.v ++ [r.v]) E ++ (g.rs.map (RowB.blk T1) ++ [r.blk T1]) := by
      unfold gRL; simp
    rw [e1]
    have e2 := hE.perm
    have e3 : (g.rs.map (RowB.blk T1) ++ L1).Perm (L2 ++ (g.rs.map (RowB.blk T1) ++ [r.blk T1])) := by
      refine (List.Perm.append_left _ e2).trans ?_
      refine List.perm_append_comm.trans ?_
      show (r.blk T1 :: L2 ++ g.rs.map (RowB.blk T1)).Perm _
      refine (List.perm_append_comm (l₁ := [r.blk T1]) (l₂ := L2 ++ g.rs.map (RowB.blk T1))).trans ?_
      rw [List.append_assoc]
    refine (List.Perm.append_right _ e3).trans ?_
    rw [List.append_assoc]
    exact List.Perm.append_left _ List.perm_append_comm
  exact fun a w st => hK a w ⟨st.sl, st.hp.perm hp2.symm⟩
/-- A call that yields rows. -/
theorem cgR {f : FuncId} {xs : Array Operand} {ats : Array TypeId} {vs : List Value} {V : GR → Value} {B : GR → Prop} {ys : GR → List (Nat × Blk)} (ha : evs S xs.toList = some vs)
    (hc : ∀ w, HP c.w0 w c.O L → Calls c.P f vs.toArray w fun e' w' => ∃ o, B o ∧ e' = .returned (V o) ∧ HP w w' [] (ys o)) (k : ∀ o, B o → WL c ops Q rest (putS d (V o) S) (L ++ ys o))
    (hf : fnB c.P f = true := by kernel_rfl) (hd : inB c.n d = true := by exact rfl) : WL c ops Q (⟨d, .call ⟨.value (.func f), xs, ats⟩, ty, pos, af, none⟩ :: rest) S L :=
  WL.cal hd (C_fn (R := fun v M => ∃ o, B o ∧ v = V o ∧ M = L ++ ys o) hf ha fun w hp => (hc w hp).mono fun _ _ ⟨o, h1, h2, h3⟩ => ⟨_, _, h2, (hp.trans0 h3).perm List.perm_append_comm, o, h1, rfl, rfl⟩)
    fun v M ⟨o, h1, h2, h3⟩ => by subst h2; subst h3; exact k o h1
end
end Go.X

/- Calls that give up. -/
namespace Go.X
open Go.RowKit
def niB (P : Program) (t : TypeId) : Bool := match P.underlying t with
  | some (.interface _) => false
  | some _ => true
  | none => false
theorem niB_open {P : Program} {t : TypeId} (h : niB P t = true) : ∃ u, P.underlying t = some u ∧ ∀ m, u ≠ .interface m := by
  unfold niB at h
  cases hu : P.underlying t with
  | none => rw [hu] at h; cases h
  | some u => exact ⟨u, rfl, fun m e => by subst e; rw [hu] at h; cases h⟩
section
variable {c : Cx} {Q : Post} {S S1 : Slots} {L L1 L2 L' Lr : List (Nat × Blk)} {ops : Array Oper} {d : Option Tmp} {t : Tmp} {ty T T' : TypeId} {pos : String} {af : Array Edge} {rest : List Oper} {op : Op} {x y : Operand} {i j : Nat} {p : Plan} {v : Value}
theorem V_mkI (ht : niB c.P T = true := by kernel_rfl) (hx : ev S x = some v := by exact rfl) : Val c S L (.makeInterface T x) ty (.iface T v) := fun a w st => by
  have e1 := st.sl.ev hx
  obtain ⟨u, hu, hn⟩ := niB_open ht
  simp only [ex, execOp, e1, Instr.makeInterface]
  cases u <;> first | exact absurd rfl (hn _) | simp [run_underlying hu]
theorem opan (k : WQ c Q (.panic [{ v := .iface T v, recovered := false }]) S L) (hx : ev S x = some (.iface T v) := by exact rfl) : WL c ops Q (⟨d, .panic x, ty, pos, af, none⟩ :: rest) S L := fun a w st => by
  have e1 := st.sl.ev hx
  have h : (ex a.eval (.panic x) ty).run c.P w = .halt (.panic (.iface T v)) w := by simp [ex, execOp, e1, Instr.panic, goPanic]
  rw [← ex_eq a.eval d (.panic x) ty pos af none] at h
  refine wpList_plain rfl fun K hK => ?_
  unfold Oper.wp
  rw [h]
  exact k a w st
theorem cpan {f : FuncId} {xs : Array Operand} {ats : Array TypeId} {vs : List Value} {ch : List PanicEntry} (ha : evs S xs.toList = some vs) (hc : ∀ w, HP c.w0 w c.O L → Calls c.P f vs.toArray w fun e w' => e = .panicked ch ∧ HP w w' [] []) (k : WQ c Q (.panic ch) S L)
    (hf : fnB c.P f = true := by kernel_rfl) : WL c ops Q (⟨d, .call ⟨.value (.func f), xs, ats⟩, ty, pos, af, none⟩ :: rest) S L := fun a w st => by
  have := evs_eq st.sl ha
  have e : xs.map a.eval = vs.toArray := by
    rw [← this, ← Array.toList_inj]; simp
  have h : (ex a.eval (.call ⟨.value (.func f), xs, ats⟩) ty).run c.P w = .ok (.enter f vs.toArray) w := by
    simp [ex, execOp, resolve, e, Act.eval, Deferred.ofValue, invoke, run_callFunc hf]
  rw [← ex_eq a.eval d _ ty pos af none] at h
  refine wpList_plain rfl fun K hK => ?_
  unfold Oper.wp
  rw [h]
  refine (hc w st.hp).mono fun e w' ⟨he, hp⟩ => ?_
  subst he
  exact k a w' ⟨st.sl, st.hp.trans0 hp⟩
theorem WQ.panicB {fn : Func} {R : Ending → World → Prop} {ch : List PanicEntry} (h : ∀ w, HP c.w0 w c.O L → R (.panicked ch) w) : WQ c (bodyPost c.P fn R) (.panic ch) S L := fun _ w st => ⟨st.sl.defers, h w st.hp⟩
theorem WQ.then_panic {K : Act → World → Prop} {ch : List PanicEntry} (h : WQ c Q (.panic ch) S L) : WQ c (Exit.then K Q) (.panic ch) S L := h
theorem vtyN {z : Value} (hx : ev S x = some .nilIface := by exact rfl) (ht : niB c.P T' = true := by kernel_rfl) (hz : (c.P.info? T').bind (·.zero) = some z := by kernel_rfl) : Val c S L (.typeAssert x T T' true) ty (.tuple #[z, .bool false]) := fun a w st => by
  have e1 := st.sl.ev hx
  obtain ⟨u, hu, hn⟩ := niB_open ht
  obtain ⟨i, hi, hz'⟩ := Option.bind_eq_some_iff.1 hz
  simp only [ex, execOp, e1, Instr.typeAssert]
  cases u <;> first | exact absurd rfl (hn _) | simp [run_underlying hu, zeroValue, run_typeInfo _ hi, hz']
theorem vtyY (hx : ev S x = some (.iface T' v) := by exact rfl) (ht : niB c.P T' = true := by kernel_rfl) : Val c S L (.typeAssert x T T' true) ty (.tuple #[v, .bool true]) := fun a w st => by
  have e1 := st.sl.ev hx
  obtain ⟨u, hu, hn⟩ := niB_open ht
  simp only [ex, execOp, e1, Instr.typeAssert]
  cases u <;> first | exact absurd rfl (hn _) | simp [run_underlying hu]
end
end Go.X

/- Deferred calls, and such that recover. -/
namespace Go.X
open Go.RowKit
/-- Code of a deferred function: it may recover. -/
def WS (c : Cx) (ops : Array Oper) (Q : Exit → Act → List Frame → World → Prop) (l : List Nat) (cs : List Frame) (S : Slots) (L : List (Nat × Blk)) : Prop := ∀ a w, St c S L a w → wpOpsS c.P ops Q l a cs w
def WC (c : Cx) (x : Code) (Q : Exit → Act → List Frame → World → Prop) (cs : List Frame) (S : Slots) (L : List (Nat × Blk)) : Prop := ∀ a w, St c S L a w → x.wpS c.P Q a cs w
section
variable {c : Cx} {S : Slots} {L : List (Nat × Blk)} {ops : Array Oper} {Q : Exit → Act → List Frame → World → Prop} {cs cs' : List Frame} {x y : Code} {i : Nat} {rest : List Nat} {t : Tmp} {op : Op} {ty : TypeId} {pos : String} {af : Array Edge} {v : Value} {ats : Array TypeId}
theorem WC.seq (h : WC c x (Exit.thenS (y.wpS c.P Q) Q) cs S L) : WC c (.seq x y) Q cs S L := fun a w st => wpS_seq (h a w st)
theorem WC.region {id : Nat} {l : List Nat} (hl : List.range ops.size = l := by rfl) (h : WS c ops Q l cs S L) : WC c (.region id ops false) Q cs S L := fun a w st => wpS_region (by rw [hl]; exact h a w st)
theorem WC.ofW (h : W c x (fun e a w => Q e a cs w) S L) : WC c x Q cs S L := fun a w st => wpS_of_wp (h a w st)
theorem WS.val (ho : ops[i]? = some ⟨some t, op, ty, pos, af, none⟩) (hv : Val c S L op ty v) (k : WS c ops Q rest cs ((t, v) :: S) L) (hd : Nat.blt t c.n = true := by exact rfl) : WS c ops Q (i :: rest) cs S L := fun a w st => by
  have h := hv a w st
  rw [← ex_eq a.eval (some t) op ty pos af none] at h
  unfold wpOpsS
  simp only [ho]
  rw [if_pos (by simp [Region.wanted]), h]
  exact k _ _ ⟨st.sl.put (blt_lt hd) v, st.hp⟩
theorem WS.rcv {v : Value} (ho : ops[i]? = some ⟨some t, .call ⟨.builtin .recover, #[], ats⟩, ty, pos, af, none⟩) (hr : recoverD cs = some (v, cs')) (k : WS c ops Q rest cs' ((t, v) :: S) L) (hd : Nat.blt t c.n = true := by exact rfl) : WS c ops Q (i :: rest) cs S L := fun a w st => by
  have h : (execOp a.eval ⟨some t, .call ⟨.builtin .recover, #[], ats⟩, ty, pos, af, none⟩).run c.P w = .ok .recover w := by
    simp [execOp, resolve, invoke, builtin]
  unfold wpOpsS
  simp only [ho]
  rw [if_pos (by simp [Region.wanted]), h]
  simp only [hr]
  exact k _ _ ⟨st.sl.put (blt_lt hd) v, st.hp⟩
theorem WS.rcn (ho : ops[i]? = some ⟨some t, .call ⟨.builtin .recover, #[], ats⟩, ty, pos, af, none⟩) (hr : recoverD cs = none) (k : WS c ops Q rest cs ((t, .nilIface) :: S) L) (hd : Nat.blt t c.n = true := by exact rfl) : WS c ops Q (i :: rest) cs S L := fun a w st => by
  have h : (execOp a.eval ⟨some t, .call ⟨.builtin .recover, #[], ats⟩, ty, pos, af, none⟩).run c.P w = .ok .recover w := by
    simp [execOp, resolve, invoke, builtin]
  unfold wpOpsS
  simp only [ho]
  rw [if_pos (by simp [Region.wanted]), h]
  simp only [hr]
  exact k _ _ ⟨st.sl.put (blt_lt hd) _, st.hp⟩
theorem WS.nil (k : WC c y Q cs S L) : WS c ops (Exit.thenS (y.wpS c.P Q) Q) [] cs S L := fun a w st => by
  unfold wpOpsS; exact k a w st
theorem WQ.retS {fn : Func} {c₀ : Frame} {cs0 : List Frame} {u' : FrameMode} {R : Ending → FrameMode → World → Prop} {e : Exit} (he : e = .normal ∨ e = .ret) (hres : fn.results = #[]) (hcs : cs' = { c₀ with mode := u' } :: cs0) (h : ∀ w, HP c.w0 w c.O L → R (.returned (.tuple #[])) u' w) :
    WQ c (fun e a w => bodyPostS c.P fn c₀ cs0 R e a cs' w) e S L := fun a w st => by
  rcases he with rfl | rfl <;> exact ⟨st.sl.defers, u', hcs, _, by simp [results, hres], h w st.hp⟩
end
theorem callsD_of_WC {P : Program} {f : FuncId} {fn : Func} {x : Code} {args : List Value} {u : FrameMode} {w : World} {R : Ending → FrameMode → World → Prop} {n : Nat} {O : List Nat} {S : Slots} {L : List (Nat × Blk)}
    (hf : P.funcs[f]? = some fn) (hb : fn.body = some x) (hn : fn.ntmps = n) (hle : Nat.ble args.length n = true) (hS : slotsFrom 0 args = S) (hL : HP w w O L)
    (h : ∀ (c₀ : Frame) (cs : List Frame), c₀.mode = u → WC ⟨P, n, w, O⟩ x (bodyPostS P fn c₀ cs R) (c₀ :: cs) S L) : CallsD P f args.toArray u w R := by
  refine callsD_of_wpS hf hb fun c₀ cs hu => h c₀ cs hu _ _ ⟨⟨?_, rfl, fun t v ht => ?_⟩, hL⟩
  · have := Nat.le_of_ble_eq_true hle
    simp [hn]; omega
  · rw [← hS] at ht
    obtain ⟨_, h2⟩ := slotsFrom_get args 0 t v ht
    simp only [Nat.sub_zero] at h2
    have hlt : t < args.length := (List.getElem?_eq_some_iff.1 h2).1
    simp only [Array.getElem?_append, List.size_toArray, List.getElem?_toArray, hlt, if_true]
    exact h2
end Go.X

/- Code behind a defer statement. -/
namespace Go.X
open Go.RowKit
def bare (a : Act) : Act := { a with defers := [] }
theorem bare_eval {a : Act} : (bare a).eval = a.eval := rfl
theorem bare_put {a : Act} {d : Option Tmp} {v : Value} : bare (a.put d v) = (bare a).put d v := by cases d <;> rfl
theorem put_defers {a : Act} {d : Option Tmp} {v : Value} : (a.put d v).defers = a.defers := by cases d <;> rfl
def WF (c : Cx) (ds : List Deferred) (x : Code) (Q : Post) (S : Slots) (L : List (Nat × Blk)) : Prop := ∀ a w, a.defers = ds → St c S L (bare a) w → x.wp c.P Q a w
def WFL (c : Cx) (ds : List Deferred) (ops : Array Oper) (Q : Post) (l : List Oper) (S : Slots) (L : List (Nat × Blk)) : Prop := ∀ a w, a.defers = ds → St c S L (bare a) w → wpList c.P ops Q l a w
def WFQ (c : Cx) (ds : List Deferred) (Q : Post) (e : Exit) (S : Slots) (L : List (Nat × Blk)) : Prop := ∀ a w, a.defers = ds → St c S L (bare a) w → Q e a w
section
variable {c : Cx} {ds : List Deferred} {Q : Post} {S S1 : Slots} {L L1 L2 L' Lr Lx : List (Nat × Blk)} {ops : Array Oper} {d : Option Tmp} {t : Tmp} {ty T T' : TypeId} {pos : String} {af : Array Edge} {rest : List Oper} {op : Op} {x y : Operand} {i j : Nat} {v : Value} {X Y : Code}
theorem WF.seq (h : WF c ds X (Exit.then (Y.wp c.P Q) Q) S L) : WF c ds (.seq X Y) Q S L := fun a w hd st => wp_seq (h a w hd st)
theorem WF.region {id : Nat} {l : List Oper} (h : WFL c ds l.toArray Q l S L) : WF c ds (.region id l.toArray false) Q S L := fun a w hd st => wp_region_lit (h a w hd st)
theorem WF.ret (h : WFQ c ds Q .ret S L) : WF c ds .ret Q S L := fun a w hd st => wp_ret (h a w hd st)
theorem WFL.nil (h : WFQ c ds Q .normal S L) : WFL c ds ops Q [] S L := fun a w hd st => wpList_nil (h a w hd st)
theorem WFQ.then (h : WF c ds Y Q S L) : WFQ c ds (Exit.then (Y.wp c.P Q) Q) .normal S L := h
theorem WFQ.then_panic {K : Act → World → Prop} {ch : List PanicEntry} (h : WFQ c ds Q (.panic ch) S L) : WFQ c ds (Exit.then K Q) (.panic ch) S L := h
theorem WFL.val (hv : Val c S L op ty v) (k : WFL c ds ops Q rest ((t, v) :: S) L) (hd : Nat.blt t c.n = true := by exact rfl) : WFL c ds ops Q (⟨some t, op, ty, pos, af, none⟩ :: rest) S L := fun a w hds st => by
  have h := hv (bare a) w st
  rw [bare_eval, ← ex_eq a.eval (some t) op ty pos af none] at h
  refine wpList_plain rfl fun K hK => ?_
  unfold Oper.wp
  rw [h]
  exact hK _ _ (k _ w (by rw [put_defers]; exact hds) ⟨by rw [bare_put]; exact st.sl.put (blt_lt hd) v, st.hp⟩)
theorem WFL.eff {R : Value → List (Nat × Blk) → Prop} (hd : inB c.n d = true) (hv : Eff c S L op ty R) (k : ∀ v L', R v L' → WFL c ds ops Q rest (putS d v S) L') : WFL c ds ops Q (⟨d, op, ty, pos, af, none⟩ :: rest) S L := fun a w hds st => by
  obtain ⟨v, w', L', h, hp, r⟩ := hv (bare a) w st
  rw [bare_eval, ← ex_eq a.eval d op ty pos af none] at h
  refine wpList_plain rfl fun K hK => ?_
  unfold Oper.wp
  rcases h with h | ⟨h, rfl⟩
  · rw [h]; exact hK _ _ (k v L' r _ w' (by rw [put_defers]; exact hds) ⟨by rw [bare_put]; exact st.sl.putS hd v, hp⟩)
  · rw [h]; exact hK _ _ (k _ L' r _ w' (by rw [put_defers]; exact hds) ⟨by rw [bare_put]; exact st.sl.putS hd _, hp⟩)
theorem WFL.cal {R : Value → List (Nat × Blk) → Prop} (hd : inB c.n d = true) (hv : Cal c S L op ty R) (k : ∀ v L', R v L' → WFL c ds ops Q rest (putS d v S) L') : WFL c ds ops Q (⟨d, op, ty, pos, af, none⟩ :: rest) S L := fun a w hds st => by
  obtain ⟨f, args, h, hc⟩ := hv (bare a) w st
  rw [bare_eval, ← ex_eq a.eval d op ty pos af none] at h
  refine wpList_plain rfl fun K hK => ?_
  unfold Oper.wp
  rw [h]
  refine hc.mono fun e w' ⟨v, L', he, hp, r⟩ => ?_
  subst he
  exact hK _ _ (k v L' r _ w' (by rw [put_defers]; exact hds) ⟨by rw [bare_put]; exact st.sl.putS hd v, hp⟩)
theorem WFL.pan {f : FuncId} {xs : Array Operand} {ats : Array TypeId} {vs : List Value} {ch : List PanicEntry} (ha : evs S xs.toList = some vs) (hc : ∀ w, HP c.w0 w c.O L → Calls c.P f vs.toArray w fun e w' => e = .panicked ch ∧ HP w w' [] []) (k : WFQ c ds Q (.panic ch) S L)
    (hf : fnB c.P f = true := by kernel_rfl) : WFL c ds ops Q (⟨d, .call ⟨.value (.func f), xs, ats⟩, ty, pos, af, none⟩ :: rest) S L := fun a w hds st => by
  have := evs_eq st.sl ha
  have e : xs.map a.eval = vs.toArray := by
    rw [← bare_eval (a := a), ← this, ← Array.toList_inj]; simp
  have h : (ex a.eval (.call ⟨.value (.func f), xs, ats⟩) ty).run c.P w = .ok (.enter f vs.toArray) w := by
    simp [ex, execOp, resolve, e, Act.eval, Deferred.ofValue, invoke, run_callFunc hf]
  rw [← ex_eq a.eval d _ ty pos af none] at h
  refine wpList_plain rfl fun K hK => ?_
  unfold Oper.wp
  rw [h]
  refine (hc w st.hp).mono fun e w' ⟨he, hp⟩ => ?_
  subst he
  exact k a w' hds ⟨st.sl, st.hp.trans0 hp⟩
theorem odefer {fn : Fn} {fs cs : Array Value} {ats : Array TypeId} (k : WFL c [{ target := .fn fn cs, args := fs }] ops Q rest S L) (hx : ev S x = some (.func fn fs cs) := by exact rfl) : WL c ops Q (⟨none, .defer ⟨.value x, #[], ats⟩, ty, pos, af, none⟩ :: rest) S L := fun a w st => by
  have e1 := st.sl.ev hx
  have h : (execOp a.eval ⟨none, .defer ⟨.value x, #[], ats⟩, ty, pos, af, none⟩).run c.P w = .ok (.defer { target := .fn fn cs, args := fs }) w := by
    simp [execOp, resolve, e1, Deferred.ofValue]
  refine wpList_plain rfl fun K hK => ?_
  unfold Oper.wp
  rw [h]
  have hb : bare { a with defers := { target := .fn fn cs, args := fs } :: a.defers } = a := by
    unfold bare; have := st.sl.defers; cases a; simp_all
  exact hK _ _ (k _ w (by show _ :: a.defers = _; rw [st.sl.defers]) (by show St c S L (bare { a with defers := { target := .fn fn cs, args := fs } :: a.defers }) w; rw [hb]; exact st))
end
section
variable {c : Cx} {ds : List Deferred} {S : Slots} {L Lx M : List (Nat × Blk)} {fn : Func} {R : Ending → World → Prop} {r1 r2 : ResultVar} {v1 v2 : Value} {f : FuncId} {fs cs : Array Value}
theorem WQ.retD2 (hr : fn.results = #[r1, r2]) (h1 : Res c S L r1 v1) (h2 : Res c S L r2 v2) (h : ∀ w, HP c.w0 w c.O L → R (.returned (.tuple #[v1, v2])) w) : WQ c (bodyPostD c.P fn R) .ret S L := fun a w st => by
  show Leaves c.P fn a.tmps R a.defers .returning w
  rw [st.sl.defers]
  have e1 := h1.run st
  have e2 := h2.run st
  exact ⟨_, by rw [run_results2 hr, e1, Result.andThen_ok, e2]; rfl, h w st.hp⟩
theorem WFQ.retD2 (hf : fnB c.P f = true) (hc : ∀ w, HP c.w0 w c.O L → CallsD c.P f (fs ++ cs) .returning w fun e u' w' => e = .returned (.tuple #[]) ∧ u' = .returning ∧ HP w w' [] [])
    (hr : fn.results = #[r1, r2]) (h1 : Res c S L r1 v1) (h2 : Res c S L r2 v2) (h : ∀ w, HP c.w0 w c.O L → R (.returned (.tuple #[v1, v2])) w) : WFQ c [{ target := .fn (.func f) cs, args := fs }] (bodyPostD c.P fn R) .ret S L := fun a w hds st => by
  show Leaves c.P fn a.tmps R a.defers .returning w
  rw [hds]
  refine leaves_cons (by simp) (run_callFunc hf) ((hc w st.hp).mono fun e u' w' ⟨he, hu, hp⟩ => ?_)
  subst he; subst hu
  have st' : St c S L (bare a) w' := ⟨st.sl, st.hp.trans0 hp⟩
  have e1 := h1.run st'
  have e2 := h2.run st'
  exact ⟨_, by rw [run_results2 hr]; show ((resAct (bare a).tmps r1).run c.P w').andThen _ = _; rw [e1, Result.andThen_ok]; show ((resAct (bare a).tmps r2).run c.P w').andThen _ = _; rw [e2]; rfl, h w' st'.hp⟩
theorem WFQ.panD2 {ch : List PanicEntry} {p : PanicEntry} {bs : List Nat} (hp0 : p.recovered = true) (hdel : Dels bs L Lx) (hf : fnB c.P f = true) (hc : ∀ w, HP c.w0 w c.O L → CallsD c.P f (fs ++ cs) (.panicking ch) w fun e u' w' => e = .returned (.tuple #[]) ∧ u' = .panicking [p] ∧ HP w w' bs M)
    (hr : fn.results = #[r1, r2]) (h1 : Res c S (M ++ Lx) r1 v1) (h2 : Res c S (M ++ Lx) r2 v2) (h : ∀ w, HP c.w0 w c.O (M ++ Lx) → R (.returned (.tuple #[v1, v2])) w) : WFQ c [{ target := .fn (.func f) cs, args := fs }] (bodyPostD c.P fn R) (.panic ch) S L := fun a w hds st => by
  show Leaves c.P fn a.tmps R a.defers (.panicking ch) w
  rw [hds]
  refine leaves_cons (by simp) (run_callFunc hf) ((hc w st.hp).mono fun e u' w' ⟨he, hu, hp⟩ => ?_)
  subst he; subst hu
  have st' : St c S (M ++ Lx) (bare a) w' := ⟨st.sl, st.hp.trans hdel hp⟩
  have e1 := h1.run st'
  have e2 := h2.run st'
  have hs : settle (.panicking [p]) = .returning := by
    obtain ⟨v, r, g⟩ := p
    simp only at hp0
    subst hp0
    rfl
  show Leaves c.P fn a.tmps R [] (settle (.panicking [p])) w'
  rw [hs]
  exact ⟨_, by rw [run_results2 hr]; show ((resAct (bare a).tmps r1).run c.P w').andThen _ = _; rw [e1, Result.andThen_ok]; show ((resAct (bare a).tmps r2).run c.P w').andThen _ = _; rw [e2]; rfl, h w' st'.hp⟩
end
theorem calls_of_WD {P : Program} {f : FuncId} {fn : Func} {x : Code} {args : List Value} {w : World} {R : Ending → World → Prop} {n : Nat} {O : List Nat} {S : Slots} {L : List (Nat × Blk)}
    (hf : P.funcs[f]? = some fn) (hb : fn.body = some x) (hn : fn.ntmps = n) (hle : Nat.ble args.length n = true) (hS : slotsFrom 0 args = S) (hL : HP w w O L)
    (h : W ⟨P, n, w, O⟩ x (bodyPostD P fn R) S L) : Calls P f args.toArray w R := by
  refine calls_of_wp_defers hf hb (h _ _ ⟨⟨?_, rfl, fun t v ht => ?_⟩, hL⟩)
  · have := Nat.le_of_ble_eq_true hle
    simp [hn]; omega
  · rw [← hS] at ht
    obtain ⟨_, h2⟩ := slotsFrom_get args 0 t v ht
    simp only [Nat.sub_zero] at h2
    have hlt : t < args.length := (List.getElem?_eq_some_iff.1 h2).1
    simp only [Array.getElem?_append, List.size_toArray, List.getElem?_toArray, hlt, if_true]
    exact h2
section
variable {c : Cx} {ds : List Deferred} {Q : Post} {S S1 : Slots} {L L1 L2 L' Lr Lx : List (Nat × Blk)} {ops : Array Oper} {d : Option Tmp} {t : Tmp} {ty T T' : TypeId} {pos : String} {af : Array Edge} {rest : List Oper} {op : Op} {x y : Operand} {i j : Nat} {v : Value}
theorem fmv (k : WFL c ds ops Q rest ((t, v) :: S) L) (hx : ev S x = some v := by exact rfl) (hd : Nat.blt t c.n = true := by exact rfl) : WFL c ds ops Q (⟨some t, .move x, ty, pos, af, none⟩ :: rest) S L := WFL.val (V_move hx) k hd
theorem fstt {b o : Nat} {cs cs' : List Seg} {t : TypeId} (k : WFL c ds ops Q rest S L') (ht : szB c.P T 1 = true := by kernel_rfl) (hx : ev S x = some (.pointer (some ⟨b, o, none⟩)) := by exact rfl) (hy : ev S y = some v := by exact rfl) (h1 : one v = true := by rfl)
    (hu : Upd b (.cells cs' t) L (.cells cs t) L' := by repeat (first | exact Upd.here _ _ | apply Upd.there)) (hs : set1 cs o v = some cs' := by rfl) : WFL c ds ops Q (⟨none, .store T x y, ty, pos, af, none⟩ :: rest) S L := WFL.eff (d := none) rfl (E_store ht hx hy h1 hu hs) (fun v M ⟨_, hM⟩ => by subst hM; exact k)
theorem fsta {b o : Nat} {cs cs' es : List Seg} {t : TypeId} (n : Nat) (k : WFL c ds ops Q rest S L') (ht : szB c.P T n = true := by kernel_rfl) (hx : ev S x = some (.pointer (some ⟨b, o, none⟩)) := by exact rfl) (hy : ev S y = some (AG es) := by exact rfl) (hd : Fit es := by exact fit)
    (hn : (flat es).length = n := by exact fln) (h1 : ∀ v ∈ flat es, one v = true := by repeat (first | exact ones_nil | refine ones_cons (by first | exact iv_one | (simp [Go.X.one]; done)) ?_))
    (hu : Upd b (.cells cs' t) L (.cells cs t) L' := by repeat (first | exact Upd.here _ _ | apply Upd.there)) (hs : putAt cs o n es = some cs' := by rfl) : WFL c ds ops Q (⟨none, .store T x y, ty, pos, af, none⟩ :: rest) S L := WFL.eff (d := none) rfl (E_storeA n ht hx hy hn hd h1 hu hs) (fun v M ⟨_, hM⟩ => by subst hM; exact k)
theorem fcp {f : FuncId} {xs : Array Operand} {ats : Array TypeId} {vs : List Value} (ha : evs S xs.toList = some vs) (hc : ∀ w, HP c.w0 w c.O L → Calls c.P f vs.toArray w fun e w' => e = .returned v ∧ HP w w' [] []) (k : WFL c ds ops Q rest (putS d v S) L)
    (hf : fnB c.P f = true := by kernel_rfl) (hd : inB c.n d = true := by exact rfl) : WFL c ds ops Q (⟨d, .call ⟨.value (.func f), xs, ats⟩, ty, pos, af, none⟩ :: rest) S L :=
  WFL.cal hd (C_fn (R := fun u M => u = v ∧ M = L) hf ha fun w hp => (hc w hp).mono fun _ _ ⟨he, hp'⟩ => ⟨v, L, he, hp.trans0 hp', rfl, rfl⟩) fun u M ⟨h1, h2⟩ => by subst h1; subst h2; exact k
end
/-- Code that does not give up. -/
def Quiet (Q : Post) : Post := fun e a w => match e with
  | .panic _ => False
  | e => Q e a w
theorem W.quiet {c : Cx} {Q : Post} {S : Slots} {L : List (Nat × Blk)} {X : Code} (h : W c X (Quiet Q) S L) : W c X Q S L := fun a w st => wp_mono (h a w st) fun e a w hq => by
  cases e <;> first | exact hq | exact hq.elim
theorem WQ.quiet_ret {c : Cx} {Q : Post} {S : Slots} {L : List (Nat × Blk)} (h : WQ c Q .ret S L) : WQ c (Quiet Q) .ret S L := h
end Go.X
