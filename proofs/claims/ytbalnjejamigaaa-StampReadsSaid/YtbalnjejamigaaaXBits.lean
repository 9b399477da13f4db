/- The bitwise operators. -/
import Derived.Test.YtbalnjejamigaaaXRow
set_option linter.unusedVariables false
set_option linter.unusedSimpArgs false
namespace Go.X
def andI (k : IntKind) (a b : Int) : Int := k.wrap ((BitVec.ofInt k.bits a &&& BitVec.ofInt k.bits b).toNat : Nat)
def orI (k : IntKind) (a b : Int) : Int := k.wrap ((BitVec.ofInt k.bits a ||| BitVec.ofInt k.bits b).toNat : Nat)
def xorI (k : IntKind) (a b : Int) : Int := k.wrap ((BitVec.ofInt k.bits a ^^^ BitVec.ofInt k.bits b).toNat : Nat)
def andNotI (k : IntKind) (a b : Int) : Int := k.wrap ((BitVec.ofInt k.bits a &&& ~~~BitVec.ofInt k.bits b).toNat : Nat)
def shlI (k : IntKind) (a n : Int) : Int := k.wrap (a * 2 ^ min n.toNat k.bits)
def shrI (k : IntKind) (a n : Int) : Int := a.fdiv (2 ^ min n.toNat k.bits)
variable {c : Cx} {S : Slots} {L : List (Nat × Blk)} {ty T T' : TypeId} {x y : Operand} {k : IntKind} {p q : Int}
theorem V_and (hx : ev S x = some (.int k p)) (hy : ev S y = some (.int k q)) : Val c S L (.binOp .and T x y T') ty (.int k (andI k p q)) := V_bin hx hy fun w => by simp [binOp, Op.intBits, andI, pure]
theorem V_or (hx : ev S x = some (.int k p)) (hy : ev S y = some (.int k q)) : Val c S L (.binOp .or T x y T') ty (.int k (orI k p q)) := V_bin hx hy fun w => by simp [binOp, Op.intBits, orI, pure]
theorem V_xor (hx : ev S x = some (.int k p)) (hy : ev S y = some (.int k q)) : Val c S L (.binOp .xor T x y T') ty (.int k (xorI k p q)) := V_bin hx hy fun w => by simp [binOp, Op.intBits, xorI, pure]
theorem V_andNot (hx : ev S x = some (.int k p)) (hy : ev S y = some (.int k q)) : Val c S L (.binOp .andNot T x y T') ty (.int k (andNotI k p q)) := V_bin hx hy fun w => by simp [binOp, Op.intBits, andNotI, pure]
theorem V_bin2 {op : BinOp} {k' : IntKind} {v : Value} (hx : ev S x = some (.int k p)) (hy : ev S y = some (.int k' q)) (h : ∀ w, (binOp op T (.int k p) (.int k' q)).run c.P w = .ok v w) : Val c S L (.binOp op T x y T') ty v := fun a w st => by
  have h1 := st.sl.ev hx; have h2 := st.sl.ev hy
  have hg : ∀ w, (eqGuard op T x y (.int k p) (.int k' q)).run c.P w = .ok () w := fun w => by
    unfold eqGuard
    cases op <;> simp [pure]
  simp [ex, execOp, h1, h2, hg, h]
theorem V_shl {k' : IntKind} (hx : ev S x = some (.int k p)) (hy : ev S y = some (.int k' q)) (h : 0 ≤ q) : Val c S L (.binOp .shl T x y T') ty (.int k (shlI k p q)) := V_bin2 hx hy fun w => by
  simp [binOp, Op.shift, shlI, pure, show ¬ q < 0 from by omega]
theorem V_shr {k' : IntKind} (hx : ev S x = some (.int k p)) (hy : ev S y = some (.int k' q)) (h : 0 ≤ q) : Val c S L (.binOp .shr T x y T') ty (.int k (shrI k p q)) := V_bin2 hx hy fun w => by
  simp [binOp, Op.shift, shrI, pure, show ¬ q < 0 from by omega]
theorem V_com (hx : ev S x = some (.int k p)) : Val c S L (.unOp .xor T x) ty (.int k (xorI k (if k.signed then -1 else k.max) p)) := fun a w st => by
  have h1 := st.sl.ev hx; simp [ex, execOp, h1, Op.unary, Op.intBits, xorI, pure]
end Go.X
