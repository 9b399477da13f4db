/- Structs compared, segment by segment. -/
import Derived.Test.YtbalnjejamigaaaX5
set_option linter.unusedVariables false
set_option linter.unusedSimpArgs false
namespace Go.X
open Go.RowKit
theorem lEq_ivU {k : IntKind} : ∀ {l l' : List Int}, lEq (iv k l) (iv k l') = decide (l = l')
  | [], [] => by simp [iv, lEq]
  | a :: l, [] => by simp [iv, lEq]
  | [], b :: l' => by simp [iv, lEq]
  | a :: l, b :: l' => by
    have ih := lEq_ivU (k := k) (l := l) (l' := l')
    simp only [iv, List.map_cons, lEq, cEq] at ih ⊢
    rw [ih]
    by_cases h1 : a = b <;> by_cases h2 : l = l' <;> simp [h1, h2]
/-- Segment by segment. -/
def eqS : List Seg → List Seg → Bool
  | [], [] => true
  | (_, x) :: as, (_, y) :: bs => lEq x y && eqS as bs
  | _, _ => false
@[simp] theorem eqS_nil : eqS [] [] = true := rfl
@[simp] theorem eqS_iv {n m : Nat} {k : IntKind} {l l' : List Int} {as bs : List Seg} : eqS ((n, iv k l) :: as) ((m, iv k l') :: bs) = (decide (l = l') && eqS as bs) := by simp [eqS, lEq_ivU]
@[simp] theorem eqS_int {n m : Nat} {k k' : IntKind} {a b : Int} {as bs : List Seg} : eqS ((n, [.int k a]) :: as) ((m, [.int k' b]) :: bs) = (decide (a = b) && eqS as bs) := by
  simp only [eqS, lEq, cEq, Bool.and_true]; rfl
@[simp] theorem eqS_bool {n m : Nat} {a b : Bool} {as bs : List Seg} : eqS ((n, [.bool a]) :: as) ((m, [.bool b]) :: bs) = ((a == b) && eqS as bs) := by simp [eqS, lEq, cEq]
@[simp] theorem eqS_repl {n m p : Nat} {k : IntKind} {l : List Int} {a : Int} {as bs : List Seg} : eqS ((n, List.replicate p (.int k a)) :: as) ((m, iv k l) :: bs) = (decide (List.replicate p a = l) && eqS as bs) := by rw [iv_rep]; exact eqS_iv
@[simp] theorem eqS_repr {n m p : Nat} {k : IntKind} {l : List Int} {a : Int} {as bs : List Seg} : eqS ((n, iv k l) :: as) ((m, List.replicate p (.int k a)) :: bs) = (decide (l = List.replicate p a) && eqS as bs) := by rw [iv_rep]; exact eqS_iv
/-- Segments of such kinds. -/
inductive KS : List Seg → List (Nat × Nat) → Prop where
  | nil : KS [] []
  | cons {n q : Nat} {xs : List Value} {as : List Seg} {ks : List (Nat × Nat)} (h : xs.map kd = List.replicate n q) (t : KS as ks) : KS ((n, xs) :: as) ((n, q) :: ks)
theorem iv_kds {k : IntKind} {l : List Int} {n : Nat} (h : l.length = n) : (iv k l).map kd = List.replicate n (kdOf k) := by
  have := iv_kd (k := k) h; simpa [flat] using this
theorem ksx {as : List Seg} {ks : List (Nat × Nat)} (h : KS as ks := by repeat (first | exact KS.nil | refine KS.cons (by first | rfl | exact iv_kds sc | simp) ?_)) : KS as ks := h
def shOf (ks : List (Nat × Nat)) : List Nat := ks.flatMap fun q => List.replicate q.1 q.2
theorem KS.sh {as : List Seg} {ks : List (Nat × Nat)} (h : KS as ks) : (flat as).map kd = shOf ks := by
  induction h with
  | nil => rfl
  | @cons n q xs as ks h t ih => simp only [flat, List.flatMap_cons, List.map_append, shOf] at ih ⊢; rw [h, ih]
theorem KS.eq {as : List Seg} {ks : List (Nat × Nat)} (h : KS as ks) : ∀ {bs : List Seg}, KS bs ks → lEq (flat as) (flat bs) = eqS as bs := by
  induction h with
  | nil => intro bs h2; cases h2; rfl
  | @cons n q xs as ks h t ih =>
    intro bs h2
    cases h2 with
    | @cons _ _ ys bs _ h' t' =>
      have l1 := congrArg List.length h
      have l2 := congrArg List.length h'
      simp only [List.length_map, List.length_replicate] at l1 l2
      rw [flat_cons, flat_cons, lEq_append (by omega), ih t', eqS]
section
variable {c : Cx} {S : Slots} {L : List (Nat × Blk)} {ty : TypeId} {x y : Operand} {T T' : TypeId} {as bs : List Seg}
theorem veqA (ks : List (Nat × Nat)) (hx : ev S x = some (AG as) := by exact rfl) (hy : ev S y = some (AG bs) := by exact rfl) (h1 : KS as ks := by exact ksx) (h2 : KS bs ks := by exact ksx) (hs : shape c.P 5 T = some (shOf ks) := by kernel_rfl) (hag : aggT c.P T = true := by kernel_rfl) (hg : c.P.eqGuardType c.P.depth T = false := by kernel_rfl) :
    Val c S L (.binOp .eql T x y T') ty (.bool (eqS as bs)) := by
  have := V_eqlA (c := c) (S := S) (L := L) (ty := ty) (T' := T') 5 (shOf ks) (by decide) hs hag hg hx hy h1.sh h2.sh
  rwa [h1.eq h2] at this
theorem vneA (ks : List (Nat × Nat)) (hx : ev S x = some (AG as) := by exact rfl) (hy : ev S y = some (AG bs) := by exact rfl) (h1 : KS as ks := by exact ksx) (h2 : KS bs ks := by exact ksx) (hs : shape c.P 5 T = some (shOf ks) := by kernel_rfl) (hag : aggT c.P T = true := by kernel_rfl) (hg : c.P.eqGuardType c.P.depth T = false := by kernel_rfl) :
    Val c S L (.binOp .neq T x y T') ty (.bool (!eqS as bs)) := by
  have := V_neqA (c := c) (S := S) (L := L) (ty := ty) (T' := T') 5 (shOf ks) (by decide) hs hag hg hx hy h1.sh h2.sh
  rwa [h1.eq h2] at this
end
end Go.X
