/- Short forms of the walk's rules: what is plain is found by default tactics. -/
import Derived.Test.YtbalnjejamigaaaXKey
set_option linter.unusedVariables false
set_option linter.unusedSimpArgs false
namespace Go.X
open Go.RowKit

/-! ### side conditions -/
theorem mm {α : Type} {a : α} {l : List α} (h : a ∈ l := by repeat (first | exact List.Mem.head _ | apply List.Mem.tail)) : a ∈ l := h

/-! ### slices' cells, by what is tracked -/
section
variable {w0 w : World} {O : List Nat} {L : List (Nat × Blk)} {b n r o m s cap l h : Nat} {xs rs : List Value} {t : TypeId} {A : Option Addr} {k : IntKind} {is : List Int}
theorem SrW.nilI : SrW w s A 0 (iv k []) := SrW.nil
theorem HP.atw {cs : List Seg} (hp : HP w0 w O L) (hm : (b, Blk.cells cs t) ∈ L) : AtW w b cs := by
  have := hp.held _ hm
  exact ⟨this.1, t, _, this.2⟩
theorem HP.atr {cs : List Seg} (hp : HP w0 w O L) (hm : (b, Blk.ro cs) ∈ L) : AtW w b cs := hp.held _ hm
theorem AtW.sown (hw : AtW w b [(n, xs), (r, rs)]) (h1 : ∀ v ∈ xs, one v = true) : SrW w 1 (some ⟨b, 0, none⟩) n xs := by
  obtain ⟨hl, hf⟩ := hw.1.cons
  refine hw.cells ?_ (by simp [flat]; omega) h1
  simp [flat, ← hl]
theorem AtW.sall (hw : AtW w b [(n, xs)]) (h1 : ∀ v ∈ xs, one v = true) : SrW w 1 (some ⟨b, 0, none⟩) n xs := by
  obtain ⟨hl, hf⟩ := hw.1.cons
  refine hw.cells ?_ (by simp [flat]; omega) h1
  simp [flat, ← hl]
theorem HP.sown (hp : HP w0 w O L) (hm : (b, Blk.cells [(n, xs), (r, rs)] t) ∈ L) (h1 : ∀ v ∈ xs, one v = true) : SrW w 1 (some ⟨b, 0, none⟩) n xs := (hp.atw hm).sown h1
theorem HP.sall (hp : HP w0 w O L) (hm : (b, Blk.cells [(n, xs)] t) ∈ L) (h1 : ∀ v ∈ xs, one v = true) : SrW w 1 (some ⟨b, 0, none⟩) n xs := (hp.atw hm).sall h1
theorem HP.sownR (hp : HP w0 w O L) (hm : (b, Blk.ro [(n, xs), (r, rs)]) ∈ L) (h1 : ∀ v ∈ xs, one v = true) : SrW w 1 (some ⟨b, 0, none⟩) n xs := (hp.atr hm).sown h1
theorem HP.sold (hp : HP w0 w O L) (h : SrW w0 s A n xs) (hO : ∀ b o, A = some ⟨b, o, none⟩ → b ∉ O) : SrW w s A n xs := h.step hp hO
theorem SrW.takeI (h : SrW w 1 A n (iv k is)) (hm : m ≤ n) : SrW w 1 A m (iv k (is.take m)) := by
  have := h.take hm; rwa [Nat.mul_one, iv_take] at this
theorem SrW.cutI (hs : SrW w 1 A n (iv k is)) (h1 : l ≤ h) (h2 : h ≤ n) (h3 : n ≤ m) : SrW w 1 (cutA A l m 1) (h - l) (iv k ((is.drop l).take (h - l))) := by
  have := hs.cut h1 h2 h3; rwa [Nat.mul_one, Nat.mul_one, iv_drop, iv_take] at this
theorem SrW.dropI (hs : SrW w 1 A n (iv k is)) (h1 : l ≤ n) (h3 : n ≤ m) : SrW w 1 (cutA A l m 1) (n - l) (iv k (is.drop l)) := by
  have := hs.cutI (l := l) (h := n) (m := m) h1 (Nat.le_refl _) h3
  rwa [List.take_of_length_le (by have := hs.1; rw [iv_len] at this; simp; omega)] at this
theorem SrW.partI (hs : SrW w 1 (some ⟨b, o, none⟩) n (iv k is)) (hm : l + m ≤ n) : SrW w 1 (some ⟨b, o + l, none⟩) m (iv k ((is.drop l).take m)) := by
  have := hs.part hm; rwa [iv_drop, iv_take] at this
theorem hh {k : Blk} (hp : HP w0 w O L) (h : (b, k) ∈ L := by repeat (first | exact List.Mem.head _ | apply List.Mem.tail)) : k.Is w.heap[b]? := hp.held _ h
theorem ne_of2 {a b : Nat} {k k' : Blk} (hp : HP w0 w O L) (h : [(a, k), (b, k')].Sublist L) : a ≠ b := by
  have := hp.nodup.sublist (h.map (·.1))
  simp at this; exact this
end

theorem fit {ds : List Seg} (h : Fit ds := by repeat (first | exact Fit.nil | refine Fit.mk (by first | rfl | (simp [iv_len]; done) | (simp [iv_len, *]; done) | (simp [iv_len]; omega) | (simp [iv_len, *]; omega)) ?_)) : Fit ds := h
theorem fln {ds : List Seg} {n : Nat} (h : (flat ds).length = n := by first | rfl | (simp [flat, iv_len]; done) | (simp [flat, iv_len, *]; done) | (simp [flat, iv_len]; omega) | (simp [flat, iv_len, *]; omega)) : (flat ds).length = n := h
theorem ones_nil : ∀ v ∈ flat [], one v = true := fun v hv => by cases hv
theorem ones_cons {n : Nat} {xs : List Value} {r : List Seg} (h : ∀ v ∈ xs, one v = true) (hr : ∀ v ∈ flat r, one v = true) : ∀ v ∈ flat ((n, xs) :: r), one v = true := fun v hv => by
  rw [flat_cons] at hv
  exact (List.mem_append.1 hv).elim (h v) (hr v)
/-! ### tracked blocks, taken in any order -/
inductive DelE (b : Nat) (k : Blk) : List (Nat × Blk) → List (Nat × Blk) → Prop where
  | here {k0 : Blk} (e : k0 = k) (L : List (Nat × Blk)) : DelE b k ((b, k0) :: L) L
  | there {x : Nat × Blk} {L L' : List (Nat × Blk)} (h : DelE b k L L') : DelE b k (x :: L) (x :: L')
theorem DelE.perm {b : Nat} {k : Blk} {L L' : List (Nat × Blk)} (h : DelE b k L L') : L.Perm ((b, k) :: L') := by
  induction h with
  | here e L => subst e; exact .refl _
  | there h ih => exact (List.Perm.cons _ ih).trans (List.Perm.swap _ _ _)
inductive Cov : List (Nat × Blk) → List (Nat × Blk) → Prop where
  | nil (L : List (Nat × Blk)) : Cov [] L
  | cons {b : Nat} {k : Blk} {M L L' : List (Nat × Blk)} (h : DelE b k L L') (t : Cov M L') : Cov ((b, k) :: M) L
theorem Cov.perm {M L : List (Nat × Blk)} (h : Cov M L) : ∃ R, L.Perm (M ++ R) := by
  induction h with
  | nil L => exact ⟨L, .refl _⟩
  | cons h t ih => obtain ⟨R, hR⟩ := ih; exact ⟨R, h.perm.trans (List.Perm.cons _ hR)⟩
theorem Cov.ofPerm : ∀ {M L R : List (Nat × Blk)}, L.Perm (M ++ R) → Cov M L
  | [], L, R, _ => .nil L
  | (b, k) :: M, L, R, h => by
    have hm : (b, k) ∈ L := h.symm.subset (by simp)
    obtain ⟨A, B, rfl⟩ := List.append_of_mem hm
    have hd : ∀ (A B : List (Nat × Blk)), DelE b k (A ++ (b, k) :: B) (A ++ B) := fun A B => by
      induction A with
      | nil => exact .here rfl _
      | cons x A ih => exact .there ih
    refine .cons (hd A B) (Cov.ofPerm (R := R) ?_)
    exact (List.perm_cons _).1 (List.perm_middle.symm.trans h)
theorem HP.cov {w0 w : World} {O : List Nat} {L M : List (Nat × Blk)} (h : HP w0 w O L) (hc : Cov M L) : HP w0 w O M := by
  obtain ⟨R, hR⟩ := hc.perm
  exact (h.perm hR.symm).sub (List.sublist_append_left _ _)
/-- Block, room, and what stands behind; none: nil. -/
abbrev Gr := Option (Nat × Nat × List Value)
def gA : Gr → Option Addr
  | none => none
  | some (b, _, _) => some ⟨b, 0, none⟩
def gC : Gr → Nat
  | none => 0
  | some (_, cap, _) => cap
def gL (o : Gr) (n : Nat) (xs : List Value) (e : TypeId) : List (Nat × Blk) := match o with
  | none => []
  | some (b, cap, r) => [(b, .cells [(n, xs), (cap - n, r)] e)]
def GrOK (o : Gr) (n : Nat) : Prop := match o with
  | none => n = 0
  | some (_, cap, _) => n ≤ cap
theorem GrOK.cap {o : Gr} {n : Nat} (h : GrOK o n) : n ≤ gC o := by
  cases o with
  | none => exact Nat.le_of_eq h
  | some x => exact h

theorem sc {p : Prop} (h : p := by first | assumption | exact GrOK.cap (by assumption) | omega | (simp; done) | (simp [*]; done) | (simp; omega) | (simp [*]; omega) | decide) : p := h
/-- A part of the tracked blocks, taken out. -/
inductive DelL (M : List (Nat × Blk)) : List (Nat × Blk) → List (Nat × Blk) → Prop where
  | here (B : List (Nat × Blk)) : DelL M (M ++ B) B
  | last : DelL M M []
  | there {x : Nat × Blk} {L L' : List (Nat × Blk)} (h : DelL M L L') : DelL M (x :: L) (x :: L')
  | skip {N L L' : List (Nat × Blk)} (h : DelL M L L') : DelL M (N ++ L) (N ++ L')
  | left {N L L' : List (Nat × Blk)} (h : DelL M L L') : DelL M (L ++ N) (L' ++ N)
theorem DelL.perm {M L L' : List (Nat × Blk)} (h : DelL M L L') : L.Perm (M ++ L') := by
  induction h with
  | here B => exact .refl _
  | last => rw [List.append_nil]
  | there h ih => exact (List.Perm.cons _ ih).trans List.perm_middle.symm
  | skip h ih =>
    refine (List.Perm.append_left _ ih).trans ?_
    rw [← List.append_assoc, ← List.append_assoc]
    exact List.Perm.append_right _ List.perm_append_comm
  | left h ih => rw [← List.append_assoc]; exact List.Perm.append_right _ ih
theorem dell {M L L' : List (Nat × Blk)} (h : DelL M L L' := by (repeat apply DelL.there); first | exact .last | exact .here _ | exact .skip .last | exact .left (.last) | exact .left (.skip .last) | exact .left (.left (.last)) | exact .left (.left (.skip .last)) | exact .left (.left (.left (.last))) | exact .left (.left (.left (.skip .last))) | exact .left (.left (.left (.left (.last)))) | exact .left (.left (.left (.left (.skip .last)))) | exact .left (.left (.left (.left (.left (.last))))) | exact .left (.left (.left (.left (.left (.skip .last))))) | exact .left (.left (.left (.left (.left (.left (.last)))))) | exact .left (.left (.left (.left (.left (.left (.skip .last))))))) : DelL M L L' := h
theorem Cov.seg {N M L L' : List (Nat × Blk)} (h : DelL N L L') (t : Cov M L') : Cov (N ++ M) L := by
  obtain ⟨R, hR⟩ := t.perm
  have hp : L.Perm ((N ++ M) ++ R) := by rw [List.append_assoc]; exact h.perm.trans (List.Perm.append_left _ hR)
  exact Cov.ofPerm hp
theorem Cov.last {N L L' : List (Nat × Blk)} (h : DelL N L L') : Cov N L := by
  have := Cov.seg h (.nil L'); rwa [List.append_nil] at this
theorem cov {M L : List (Nat × Blk)} (h : Cov M L := by repeat (first | exact Cov.nil _ | refine Cov.cons (by repeat (first | exact DelE.here rfl _ | apply DelE.there)) ?_ | exact Cov.last dell | refine Cov.seg dell ?_)) : Cov M L := h

/-- The blocks bs are taken out. -/
theorem Dels.of {b : Nat} {k : Blk} {bs : List Nat} {L L1 L' : List (Nat × Blk)} (h : Del b k L L1) (t : Dels bs L1 L') : Dels (b :: bs) L L' := by
  obtain ⟨A, B, rfl, rfl⟩ := h.split; exact .cons t
theorem delx {b : Nat} {k : Blk} {L L' : List (Nat × Blk)} (h : Del b k L L' := by repeat (first | exact Del.here _ | apply Del.there)) : Del b k L L' := h
theorem dels {bs : List Nat} {L L' : List (Nat × Blk)} (h : Dels bs L L' := by first | exact Dels.nil _ | exact Dels.of delx (Dels.nil _) | exact Dels.of delx (Dels.of delx (Dels.nil _)) | exact Dels.of delx (Dels.of delx (Dels.of delx (Dels.nil _))) | exact Dels.of delx (Dels.of delx (Dels.of delx (Dels.of delx (Dels.nil _)))) | exact Dels.of delx (Dels.of delx (Dels.of delx (Dels.of delx (Dels.of delx (Dels.nil _))))) | exact Dels.of delx (Dels.of delx (Dels.of delx (Dels.of delx (Dels.of delx (Dels.of delx (Dels.nil _)))))) | exact Dels.of delx (Dels.of delx (Dels.of delx (Dels.of delx (Dels.of delx (Dels.of delx (Dels.of delx (Dels.nil _))))))) | exact Dels.of delx (Dels.of delx (Dels.of delx (Dels.of delx (Dels.of delx (Dels.of delx (Dels.of delx (Dels.of delx (Dels.nil _))))))))) : Dels bs L L' := h

section
variable {c : Cx} {Q : Post} {S S1 : Slots} {L L1 L' Lr : List (Nat × Blk)} {ops : Array Oper} {d : Option Tmp} {t : Tmp} {ty T T' : TypeId} {pos : String} {af : Array Edge} {rest : List Oper} {op : Op} {x y z : Operand} {v : Value}

/-! ### code -/
theorem sr {id : Nat} {l : List Oper} {y : Code} (h : WL c l.toArray (Exit.then (y.wp c.P Q) Q) l S L) : W c (.seq (.region id l.toArray false) y) Q S L := W.seq (W.region h)
theorem nq {y : Code} (h : W c y Q S L) : WL c ops (Exit.then (y.wp c.P Q) Q) [] S L := WL.nil (WQ.then h)
theorem nx {id : Nat} {y : Code} {l : List Oper} (h : WL c l.toArray (Exit.then (y.wp c.P Q) Q) l S L) : WL c ops (Exit.then ((Code.seq (.region id l.toArray false) y).wp c.P Q) Q) [] S L := nq (sr h)
theorem nxd {id : Nat} {y : Code} {l : List Oper} (h : WL c l.toArray Q l S L) : WL c ops (Exit.then ((Code.region id l.toArray false).wp c.P Q) Q) [] S L := nq (W.region h)
theorem tsr {id : Nat} {l : List Oper} {y : Code} (h : WL c l.toArray (Exit.then (y.wp c.P Q) Q) l S L) : WQ c (Exit.then ((Code.seq (.region id l.toArray false) y).wp c.P Q) Q) .normal S L := WQ.then (sr h)
theorem W.cov {x : Code} (M : List (Nat × Blk)) (h : W c x Q S M) (hc : Cov M L := by exact cov) : W c x Q S L := fun a w st => h a w ⟨st.sl, st.hp.cov hc⟩
theorem WQ.cov {e : Exit} (M : List (Nat × Blk)) (h : WQ c Q e S M) (hc : Cov M L := by exact cov) : WQ c Q e S L := fun a w st => h a w ⟨st.sl, st.hp.cov hc⟩
theorem W.bf {x : Code} (b : Nat) {k : Blk} (h : W c x Q S ((b, k) :: L')) (hd : Del b k L L' := by repeat (first | exact Del.here _ | apply Del.there)) : W c x Q S L := by
  obtain ⟨A, B, rfl, rfl⟩ := hd.split
  exact W.perm List.perm_middle.symm h
/-- A loop: what turns, what stays, and slices that grow. -/
theorem W.loopG {σ : Type} {x : Code} {K : Slots} (I : σ → Prop) (Sv : σ → Slots) (Lv : σ → List (Nat × Blk)) (LK : List (Nat × Blk)) (Gv : σ → List (Nat × Blk)) (μ : σ → Nat) (s0 : σ) (hS : Sv s0 ++ K = S) (hL : Cov (Lv s0 ++ (LK ++ Gv s0)) L) (h0 : I s0)
    (round : ∀ s, I s → W c x (Exit.then (Again c I (fun s => Sv s ++ K) (fun s => Lv s ++ (LK ++ Gv s)) μ s) Q) (Sv s ++ K) (Lv s ++ (LK ++ Gv s))) : W c (.loop x) Q S L := fun a w st =>
  W.loop (Q := Q) I (fun s => Sv s ++ K) (fun s => Lv s ++ (LK ++ Gv s)) μ s0 hS rfl h0 round a w ⟨st.sl, st.hp.cov hL⟩
theorem ag {σ : Type} {I : σ → Prop} {Sf : σ → Slots} {Lf : σ → List (Nat × Blk)} {μ : σ → Nat} {s : σ} (s' : σ) (ks : List Nat) (hI : I s') (hμ : μ s' < μ s) (hS : X.pick S ks = Sf s') (hL : Cov (Lf s') L) : WQ c (Exit.then (Again c I Sf Lf μ s) Q) .normal S L :=
  fun _ _ st => ⟨s', hI, hμ, st.sl.sub (hS ▸ pick_sub S ks), st.hp.cov hL⟩

/-! ### operations -/
theorem omv (k : WL c ops Q rest ((t, v) :: S) L) (hx : ev S x = some v := by exact rfl) (hd : Nat.blt t c.n = true := by exact rfl) : WL c ops Q (⟨some t, .move x, ty, pos, af, none⟩ :: rest) S L := WL.val hd (V_move hx) k
theorem oas (k : WL c ops Q rest ((t, v) :: S) L) (hx : ev S x = some v := by exact rfl) (hd : Nat.blt t c.n = true := by exact rfl) : WL c ops Q (⟨some t, .assign x, ty, pos, af, none⟩ :: rest) S L := WL.val hd (V_assign hx) k
theorem ov (hv : Val c S L op ty v) (k : WL c ops Q rest ((t, v) :: S) L) (hd : Nat.blt t c.n = true := by exact rfl) : WL c ops Q (⟨some t, op, ty, pos, af, none⟩ :: rest) S L := WL.val hd hv k
theorem oy {j : Nat} {b b' : Bool} (hg : guardOf ops S j = some (.bool b')) (hb : b' = b) (k : WL c ops Q (⟨d, op, ty, pos, af, none⟩ :: rest) S L) : WL c ops Q (⟨d, op, ty, pos, af, some (j, b)⟩ :: rest) S L := WL.yes hg hb k
theorem on {j : Nat} {b b' : Bool} (hg : guardOf ops S j = some (.bool b')) (hb : b' = !b) (k : WL c ops Q rest ((t, undef) :: S) L) (hd : Nat.blt t c.n = true := by exact rfl) : WL c ops Q (⟨some t, op, ty, pos, af, some (j, b)⟩ :: rest) S L := WL.no hd hg hb k

theorem vnil {p : Addr} (h : ev S x = some (.pointer (some p)) := by exact rfl) : Val c S L (.nilCheck x) ty (.pointer (some p)) := V_nil h
theorem vex {vs : Array Value} {i : Nat} (h : ev S x = some (.tuple vs) := by exact rfl) (hi : vs[i]? = some v := by exact rfl) : Val c S L (.extract x i) ty v := V_extract h hi
theorem vfa {f b o : Nat} (k n : Nat) (hf : fldB c.P T f k n = true := by kernel_rfl) (hx : ev S x = some (.pointer (some ⟨b, o, none⟩)) := by exact rfl) : Val c S L (.fieldAddr T x f) ty (.pointer (some ⟨b, o + k, none⟩)) := V_fieldAddr k n hf hx
/-- At a block's begin. -/
theorem vfa0 {f b : Nat} (k n : Nat) (hf : fldB c.P T f k n = true := by kernel_rfl) (hx : ev S x = some (.pointer (some ⟨b, 0, none⟩)) := by exact rfl) : Val c S L (.fieldAddr T x f) ty (.pointer (some ⟨b, k, none⟩)) := by
  have := V_fieldAddr (c := c) (L := L) (ty := ty) k n hf hx; rwa [Nat.zero_add] at this
theorem vfd {f : Nat} {cs : List Seg} (k n : Nat) (hf : fldB c.P T f k 1 = true := by kernel_rfl) (hs : fscB c.P T f = true := by kernel_rfl) (hx : ev S x = some (AG cs) := by exact rfl) (hF : Fit cs := by exact fit) (hv : cell1 cs k = some v := by rfl) : Val c S L (.field T x f) ty v := V_field k n hf hs hx hF hv
theorem vfda {f : Nat} {cs ds : List Seg} (k n : Nat) (hf : fldB c.P T f k n = true := by kernel_rfl) (hs : fagB c.P T f n = true := by kernel_rfl) (hx : ev S x = some (AG cs) := by exact rfl) (hF : Fit cs := by exact fit) (hv : subS cs k n = some ds := by rfl) : Val c S L (.field T x f) ty (AG ds) := V_fieldA k n hf hs hx hF hv
theorem vld {b o : Nat} {cs : List Seg} (ht : scB c.P T = true := by kernel_rfl) (hx : ev S x = some (.pointer (some ⟨b, o, none⟩)) := by exact rfl) (hA : At c L b cs := by repeat (first | exact At.head | exact At.headR | exact AtW.at ‹_› (by first | (simp; done) | simp [*]) | apply At.tail)) (hv : cell1 cs o = some v := by rfl) : Val c S L (.load T x) ty v := V_load ht hx hA hv
theorem vlda {b o : Nat} {cs ds : List Seg} (n : Nat) (ht : agB c.P T n = true := by kernel_rfl) (hx : ev S x = some (.pointer (some ⟨b, o, none⟩)) := by exact rfl) (hA : At c L b cs := by repeat (first | exact At.head | exact At.headR | exact AtW.at ‹_› (by first | (simp; done) | simp [*]) | apply At.tail)) (hv : subS cs o n = some ds := by rfl) : Val c S L (.load T x) ty (AG ds) := V_loadA n ht hx hA hv
/-- An integer of a row that begins its block. -/
theorem vldI {b q n : Nat} {k : IntKind} {l : List Int} {r : List Seg} (ht : scB c.P T = true := by kernel_rfl) (hx : ev S x = some (.pointer (some ⟨b, q, none⟩)) := by exact rfl) (hA : At c L b ((n, iv k l) :: r) := by repeat (first | exact At.head | exact At.headR | exact AtW.at ‹_› (by first | (simp; done) | simp [*]) | apply At.tail)) (hj : q < l.length := by exact sc) : Val c S L (.load T x) ty (.int k (l.getD q 0)) := V_loadIv q ht hx hA rfl hj
/-- One of a slice that came in. -/
theorem vldS {b o q n : Nat} {k : IntKind} {l : List Int} (j : Nat) (hs : SrW c.w0 1 (some ⟨b, o, none⟩) n (iv k l) := by assumption) (hO : b ∉ c.O := by simp) (ht : scB c.P T = true := by kernel_rfl) (hx : ev S x = some (.pointer (some ⟨b, q, none⟩)) := by exact rfl) (hq : q = o + j := by first | rfl | omega) (hj : j < l.length := by exact sc) : Val c S L (.load T x) ty (.int k (l.getD j 0)) :=
  V_loadSrI j (SrW.old hs (by intro b' o' e; injection e with e; injection e with e1 e2; subst e1; exact hO)) ht hx hq hj
theorem viS {i : Operand} {b o len cap j : Nat} {k : IntKind} (s : Nat) (ht : slB c.P T s = true := by kernel_rfl) (hx : ev S x = some (.slice (some ⟨b, o, none⟩) len cap) := by exact rfl) (hi : ev S i = some (.int k (j : Int)) := by exact rfl) (hj : j < len := by exact sc) : Val c S L (.indexAddr T x i) ty (.pointer (some ⟨b, o + j * s, none⟩)) := by
  have := V_indexAddrS (c := c) (L := L) (ty := ty) s ht hx hi (by omega) (by omega); simpa using this
theorem viS1 {i : Operand} {b o len cap j : Nat} {k : IntKind} (ht : slB c.P T 1 = true := by kernel_rfl) (hx : ev S x = some (.slice (some ⟨b, o, none⟩) len cap) := by exact rfl) (hi : ev S i = some (.int k (j : Int)) := by exact rfl) (hj : j < len := by exact sc) : Val c S L (.indexAddr T x i) ty (.pointer (some ⟨b, o + j, none⟩)) := by
  have := V_indexAddrS (c := c) (L := L) (ty := ty) 1 ht hx hi (by omega) (by omega); simpa using this
theorem viS0 {i : Operand} {b len cap j : Nat} {k : IntKind} (ht : slB c.P T 1 = true := by kernel_rfl) (hx : ev S x = some (.slice (some ⟨b, 0, none⟩) len cap) := by exact rfl) (hi : ev S i = some (.int k (j : Int)) := by exact rfl) (hj : j < len := by exact sc) : Val c S L (.indexAddr T x i) ty (.pointer (some ⟨b, j, none⟩)) := by
  have := V_indexAddrS (c := c) (L := L) (ty := ty) 1 ht hx hi (by omega) (by omega); simpa using this
theorem viA {i : Operand} {b o j : Nat} {k : IntKind} (n s : Nat) (ht : arB c.P T n s = true := by kernel_rfl) (hx : ev S x = some (.pointer (some ⟨b, o, none⟩)) := by exact rfl) (hi : ev S i = some (.int k (j : Int)) := by exact rfl) (hj : j < n := by exact sc) : Val c S L (.indexAddr T x i) ty (.pointer (some ⟨b, o + j * s, none⟩)) := by
  have := V_indexAddrA (c := c) (L := L) (ty := ty) n s ht hx hi (by omega) (by omega); simpa using this
theorem viA0 {i : Operand} {b j : Nat} {k : IntKind} (n : Nat) (ht : arB c.P T n 1 = true := by kernel_rfl) (hx : ev S x = some (.pointer (some ⟨b, 0, none⟩)) := by exact rfl) (hi : ev S i = some (.int k (j : Int)) := by exact rfl) (hj : j < n := by exact sc) : Val c S L (.indexAddr T x i) ty (.pointer (some ⟨b, j, none⟩)) := by
  have := V_indexAddrA (c := c) (L := L) (ty := ty) n 1 ht hx hi (by omega) (by omega); simpa using this
theorem vlenS {p : Option Addr} {n cap : Nat} {xs : Array Operand} {t : TypeId} (ht : sliceT c.P t = true := by kernel_rfl) (ha : evs S xs.toList = some [.slice p n cap] := by exact rfl) : Val c S L (.call ⟨.builtin .len, xs, #[t]⟩) ty (.int .i64 n) := V_lenS ht ha
theorem vcv {k : IntKind} {p : Int} (k' : IntKind) (hx : ev S x = some (.int k p) := by exact rfl) (ht : inB' c.P T' k' = true := by kernel_rfl) (hs : (c.P.underlying T).isSome = true := by kernel_rfl) : Val c S L (.convert T T' x) ty (.int k' (k'.wrap p)) := V_conv hx ht hs
/-- Within the kind's bounds. -/
def inK : IntKind → Int → Prop
  | .i64, p => -9223372036854775808 ≤ p ∧ p ≤ 9223372036854775807
  | .u64, p => 0 ≤ p ∧ p ≤ 18446744073709551615
  | .u32, p => 0 ≤ p ∧ p ≤ 4294967295
  | .u8, p => 0 ≤ p ∧ p ≤ 255
  | k, p => k.wrap p = p
theorem inK.wrap {k : IntKind} {p : Int} (h : inK k p) : k.wrap p = p := by
  cases k <;> first | exact IntWalk.i64_in _ h | exact IntWalk.u64_in _ h | exact h | (unfold inK at h; first | (rw [IntKind.wrap_u8]; omega) | (rw [IntKind.wrap_u32]; omega))
theorem vcvN {k : IntKind} {p : Int} (k' : IntKind) (hx : ev S x = some (.int k p) := by exact rfl) (h : inK k' p := by simp only [inK]; omega) (ht : inB' c.P T' k' = true := by kernel_rfl) (hs : (c.P.underlying T).isSome = true := by kernel_rfl) : Val c S L (.convert T T' x) ty (.int k' p) := V_convN hx ht hs h.wrap
theorem vaddN {k : IntKind} {p q : Int} (hx : ev S x = some (.int k p) := by exact rfl) (hy : ev S y = some (.int k q) := by exact rfl) (h : inK k (p + q) := by simp only [inK]; omega) : Val c S L (.binOp .add T x y T') ty (.int k (p + q)) := by
  have := V_add (c := c) (L := L) (T := T) (T' := T') (ty := ty) hx hy; rwa [h.wrap] at this
theorem vsubN {k : IntKind} {p q : Int} (hx : ev S x = some (.int k p) := by exact rfl) (hy : ev S y = some (.int k q) := by exact rfl) (h : inK k (p - q) := by simp only [inK]; omega) : Val c S L (.binOp .sub T x y T') ty (.int k (p - q)) := by
  have := V_sub (c := c) (L := L) (T := T) (T' := T') (ty := ty) hx hy; rwa [h.wrap] at this
theorem vmulN {k : IntKind} {p q : Int} (hx : ev S x = some (.int k p) := by exact rfl) (hy : ev S y = some (.int k q) := by exact rfl) (h : inK k (p * q) := by simp only [inK]; omega) : Val c S L (.binOp .mul T x y T') ty (.int k (p * q)) := by
  have := V_mul (c := c) (L := L) (T := T) (T' := T') (ty := ty) hx hy; rwa [h.wrap] at this
theorem vadd {k : IntKind} {p q : Int} (hx : ev S x = some (.int k p) := by exact rfl) (hy : ev S y = some (.int k q) := by exact rfl) : Val c S L (.binOp .add T x y T') ty (.int k (k.wrap (p + q))) := V_add hx hy
theorem vsub {k : IntKind} {p q : Int} (hx : ev S x = some (.int k p) := by exact rfl) (hy : ev S y = some (.int k q) := by exact rfl) : Val c S L (.binOp .sub T x y T') ty (.int k (k.wrap (p - q))) := V_sub hx hy
theorem vmul {k : IntKind} {p q : Int} (hx : ev S x = some (.int k p) := by exact rfl) (hy : ev S y = some (.int k q) := by exact rfl) : Val c S L (.binOp .mul T x y T') ty (.int k (k.wrap (p * q))) := V_mul hx hy
theorem vquo {p q : Int} (hx : ev S x = some (.int .i64 p) := by exact rfl) (hy : ev S y = some (.int .i64 q) := by exact rfl) (h0 : 0 ≤ p := by omega) (h1 : 1 ≤ q := by omega) (h2 : p ≤ 9223372036854775807 := by omega) : Val c S L (.binOp .quo T x y T') ty (.int .i64 (p / q)) := V_quoN hx hy h0 h1 h2
theorem vquoU {p q : Int} (hx : ev S x = some (.int .u64 p) := by exact rfl) (hy : ev S y = some (.int .u64 q) := by exact rfl) (h0 : 0 ≤ p := by omega) (h1 : 1 ≤ q := by omega) (h2 : p ≤ 18446744073709551615 := by omega) : Val c S L (.binOp .quo T x y T') ty (.int .u64 (p / q)) := by
  have := V_quo (c := c) (L := L) (T := T) (T' := T') (ty := ty) hx hy (by omega)
  rw [Int.tdiv_eq_ediv_of_nonneg h0] at this
  have b : 0 ≤ p / q := Int.ediv_nonneg h0 (by omega)
  have b2 : p / q ≤ p := Int.ediv_le_self _ h0
  rwa [show IntKind.u64.wrap (p / q) = p / q from IntWalk.u64_in _ ⟨by omega, by omega⟩] at this
theorem vrem {k : IntKind} {p q : Int} (hx : ev S x = some (.int k p) := by exact rfl) (hy : ev S y = some (.int k q) := by exact rfl) (h0 : 0 ≤ p := by omega) (h1 : 1 ≤ q := by omega) : Val c S L (.binOp .rem T x y T') ty (.int k (p % q)) := V_remN hx hy h0 h1
/-- Any other plain operator: its own law. -/
theorem v2 {p q : Value} (f : ev S x = some p → ev S y = some q → Val c S L op ty v) (hx : ev S x = some p := by exact rfl) (hy : ev S y = some q := by exact rfl) : Val c S L op ty v := f hx hy
theorem vnot {b : Bool} (hx : ev S x = some (.bool b) := by exact rfl) : Val c S L (.unOp .not T x) ty (.bool (!b)) := V_not hx
theorem vsl {A : Option Addr} {len cap l h : Nat} {lo hi : Option Operand} (s : Nat) (hx : ev S x = some (.slice A len cap) := by exact rfl) (hlo : Lo S lo l := by first | exact .no | exact .yes rfl rfl) (hhi : Hi S hi len h := by first | exact .no | exact .yes rfl rfl) (h1 : l ≤ h := by omega) (h2 : h ≤ cap := by omega) (ht : slB c.P T s = true := by kernel_rfl) :
    Val c S L (.slice T x lo hi none) ty (.slice (cutA A l cap s) (h - l) (cap - l)) := V_slice ht hx hlo hhi h1 h2
theorem vsl0 {A : Option Addr} {len cap h : Nat} {hi : Option Operand} (s : Nat) (hx : ev S x = some (.slice A len cap) := by exact rfl) (hhi : Hi S hi len h := by first | exact .no | exact .yes rfl rfl) (h2 : h ≤ cap := by omega) (ht : slB c.P T s = true := by kernel_rfl) :
    Val c S L (.slice T x none hi none) ty (.slice A h cap) := V_slice0 ht hx hhi h2
theorem vslP {b o len l h : Nat} {lo hi : Option Operand} (s n : Nat) (hx : ev S x = some (.pointer (some ⟨b, o, none⟩)) := by exact rfl) (hlo : Lo S lo l := by first | exact .no | exact .yes rfl rfl) (hhi : Hi S hi len h := by first | exact .no | exact .yes rfl rfl) (ht : arB c.P T len s = true := by kernel_rfl) (hn : n = len := by rfl) (h1 : l ≤ h := by omega) (h2 : h ≤ len := by omega) :
    Val c S L (.slice T x lo hi none) ty (.slice (cutA (some ⟨b, o, none⟩) l len s) (h - l) (len - l)) := V_sliceP ht hx hlo hhi h1 h2
theorem vslF {b o len : Nat} (s n : Nat) (ht : arB c.P T len s = true := by kernel_rfl) (hx : ev S x = some (.pointer (some ⟨b, o, none⟩)) := by exact rfl) (hn : n = len := by rfl) : Val c S L (.slice T x none none none) ty (.slice (some ⟨b, o, none⟩) len len) := by
  have := V_sliceP (c := c) (L := L) (ty := ty) ht hx .no .no (Nat.zero_le _) (Nat.le_refl _)
  rwa [cutA_zero, Nat.sub_zero] at this

/-! ### new blocks, stores -/
theorem zi {t : TypeId} {zs : List Seg} (h : ((c.P.info? t).bind (·.zero)).map (·.cells) = some (flat zs).toArray := by kernel_rfl) (hf : Fit zs := by repeat (first | exact Fit.nil | refine Fit.mk (by first | rfl | (simp; done)) ?_)) : zeroIs c.P t zs := ⟨h, hf⟩
theorem oal {T : TypeId} (zs : List Seg) (k : ∀ b, WL c ops Q rest ((t, .pointer (some ⟨b, 0, none⟩)) :: S) ((b, .cells zs T) :: L)) (hz : zeroIs c.P T zs := by exact zi) (hd : Nat.blt t c.n = true := by exact rfl) : WL c ops Q (⟨some t, .alloc T, ty, pos, af, none⟩ :: rest) S L := WL.new hd (E_alloc zs hz) k
theorem obx {T : TypeId} (k : ∀ b, WL c ops Q rest ((t, .pointer (some ⟨b, 0, none⟩)) :: S) ((b, .cells [(1, [v])] T) :: L)) (hx : ev S x = some v := by exact rfl) (h1 : one v = true := by rfl) (hd : Nat.blt t c.n = true := by exact rfl) : WL c ops Q (⟨some t, .box T x, ty, pos, af, none⟩ :: rest) S L := WL.new hd (E_box1 hx h1) k
theorem obxa {T : TypeId} {ds : List Seg} (k : ∀ b, WL c ops Q rest ((t, .pointer (some ⟨b, 0, none⟩)) :: S) ((b, .cells ds T) :: L)) (hx : ev S x = some (AG ds) := by exact rfl) (hf : Fit ds := by exact fit) (hd : Nat.blt t c.n = true := by exact rfl) : WL c ops Q (⟨some t, .box T x, ty, pos, af, none⟩ :: rest) S L := WL.new hd (E_boxA hx hf) k
theorem ost {b o : Nat} {cs cs' : List Seg} {t : TypeId} (k : WL c ops Q rest S L') (ht : szB c.P T 1 = true := by kernel_rfl) (hx : ev S x = some (.pointer (some ⟨b, o, none⟩)) := by exact rfl) (hy : ev S y = some v := by exact rfl) (h1 : one v = true := by rfl)
    (hu : Upd b (.cells cs' t) L (.cells cs t) L' := by repeat (first | exact Upd.here _ _ | apply Upd.there)) (hs : set1 cs o v = some cs' := by rfl) : WL c ops Q (⟨none, .store T x y, ty, pos, af, none⟩ :: rest) S L := WL.store ht hx hy h1 hu hs k
theorem osta {b o : Nat} {cs cs' ds : List Seg} {t : TypeId} (n : Nat) (k : WL c ops Q rest S L') (ht : szB c.P T n = true := by kernel_rfl) (hx : ev S x = some (.pointer (some ⟨b, o, none⟩)) := by exact rfl) (hy : ev S y = some (AG ds) := by exact rfl) (hd : Fit ds := by exact fit)
    (hn : (flat ds).length = n := by exact fln) (h1 : ∀ v ∈ flat ds, one v = true := by repeat (first | exact ones_nil | refine ones_cons (by first | exact iv_one | (simp [one]; done)) ?_))
    (hu : Upd b (.cells cs' t) L (.cells cs t) L' := by repeat (first | exact Upd.here _ _ | apply Upd.there)) (hs : putAt cs o n ds = some cs' := by rfl) : WL c ops Q (⟨none, .store T x y, ty, pos, af, none⟩ :: rest) S L := WL.storeA n ht hx hy hn hd h1 hu hs k
theorem ostI {b q n : Nat} {k : IntKind} {l : List Int} {r : List Seg} {p : Int} {t : TypeId} (K : WL c ops Q rest S L') (ht : szB c.P T 1 = true := by kernel_rfl) (hx : ev S x = some (.pointer (some ⟨b, q, none⟩)) := by exact rfl) (hy : ev S y = some (.int k p) := by exact rfl)
    (hu : Upd b (.cells ((n, iv k (l.set q p)) :: r) t) L (.cells ((n, iv k l) :: r) t) L' := by repeat (first | exact Upd.here _ _ | apply Upd.there)) (hj : q < l.length := by exact sc) : WL c ops Q (⟨none, .store T x y, ty, pos, af, none⟩ :: rest) S L := WL.storeIv q ht hx hy hu rfl hj K

/-! ### calls -/
theorem cp {f : FuncId} {xs : Array Operand} {ats : Array TypeId} {vs : List Value} (ha : evs S xs.toList = some vs) (hc : ∀ w, HP c.w0 w c.O L → Calls c.P f vs.toArray w fun e w' => e = .returned v ∧ HP w w' [] []) (k : WL c ops Q rest (putS d v S) L)
    (hf : fnB c.P f = true := by kernel_rfl) (hd : inB c.n d = true := by exact rfl) : WL c ops Q (⟨d, .call ⟨.value (.func f), xs, ats⟩, ty, pos, af, none⟩ :: rest) S L := WL.pure v hd hf ha hc k
theorem cm {f : FuncId} {xs : Array Operand} {ats : Array TypeId} {vs : List Value} {b : Nat} {k1 k2 : Blk} (ha : evs S xs.toList = some vs) (hc : ∀ w, HP c.w0 w c.O L → Calls c.P f vs.toArray w fun e w' => e = .returned v ∧ HP w w' [b] [(b, k2)]) (k : WL c ops Q rest (putS d v S) L')
    (hu : Upd b k2 L k1 L' := by repeat (first | exact Upd.here _ _ | apply Upd.there)) (hf : fnB c.P f = true := by kernel_rfl) (hd : inB c.n d = true := by exact rfl) : WL c ops Q (⟨d, .call ⟨.value (.func f), xs, ats⟩, ty, pos, af, none⟩ :: rest) S L := WL.mod v hd hf ha hu hc k
/-- What comes is of the prover's own making. -/
theorem cg {ι : Type} {f : FuncId} {xs : Array Operand} {ats : Array TypeId} {vs : List Value} {bs : List Nat} {V : ι → Value} {M : ι → List (Nat × Blk)} {A : ι → Prop} (ha : evs S xs.toList = some vs)
    (hc : ∀ w, HP c.w0 w c.O L → Calls c.P f vs.toArray w fun e w' => ∃ r, A r ∧ e = .returned (V r) ∧ HP w w' bs (M r)) (k : ∀ r, A r → WL c ops Q rest (putS d (V r) S) (M r ++ Lr))
    (hdel : Dels bs L Lr := by exact dels) (hf : fnB c.P f = true := by kernel_rfl) (hd : inB c.n d = true := by exact rfl) : WL c ops Q (⟨d, .call ⟨.value (.func f), xs, ats⟩, ty, pos, af, none⟩ :: rest) S L := WL.call bs V M A hd hf ha hdel hc k
end
end Go.X
