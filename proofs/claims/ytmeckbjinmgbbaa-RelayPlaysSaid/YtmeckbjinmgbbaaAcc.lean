/- A relay: what it has of one. -/
import Derived.Test.YtmeckbjinmgbbaaRel
set_option linter.unusedVariables false
set_option linter.unusedSimpArgs false

namespace Go.Proofs.Ytmeckbjinmgbbaa
open Go.X
/-- What an account is, wherever it lies. -/
structure AAcc where
  link : List Int
  idn : List Int
  sig : List Int
  once : List (List Int)
  ms : List AM
  many : Int
  t : Int
  n : Int
  susp : Bool
structure PAcc where
  link : List Int
  idn : List Int
  sig : List Int
  b3 : List Int
  hs : Bool
  susp : Bool
  t : Int
  n : Int
  many : Int
  p : Nat
  bx : Nat
  tk : Nat
  o : Gr
  ms : List ML
  oA : Option Addr
  on : Nat
  oc : Nat
  ks : List (List Int)
  oL : List (Nat × Blk)
def PAcc.abs (a : PAcc) : AAcc := ⟨a.link, a.idn, a.sig, a.ks, a.ms.map (·.1), a.many, a.t, a.n, a.susp⟩
structure AOK (a : PAcc) : Prop where
  l : a.link.length = 32
  lb : bytes a.link
  i : a.idn.length = 32
  s : a.sig.length = 32
  b : a.b3.length = 32
  ms : MsOK a.ms
  o : GrOK a.o a.ms.length
  m : 0 ≤ a.many
  bk : OkB 5 10 a.t a.n
  on : a.on = a.ks.length
  oc : a.on ≤ a.oc
  kl : ∀ k ∈ a.ks, k.length = 32
  k8 : a.on ≤ 8
  once : ∀ w : World, (∀ p ∈ a.oL, p.2.Is w.heap[p.1]?) → SrW w 32 a.oA a.on (a.ks.flatMap (iv .u8))
def POK (a : PAcc) : Prop := AOK a ∧ a.b3 = List.replicate 32 0 ∧ a.hs = false
def accP (a : PAcc) : List (Nat × Blk) := hid 0 ((a.p, .cells [(32, iv .u8 a.link), (32, iv .u8 a.idn), (32, iv .u8 a.sig), (32, iv .u8 a.b3), (1, [.bool a.hs]), (1, [.slice a.oA a.on a.oc]), (1, [.pointer (some ⟨a.bx, 0, none⟩)]), (1, [.pointer (some ⟨a.tk, 0, none⟩)]), (1, [.bool a.susp])] 105) :: (a.bx, .cells [(1, [.slice (gA a.o) a.ms.length (gC a.o)]), (1, [.int .i64 a.many])] 190) :: (a.tk, .cells (bkt 5 10 a.t a.n) 200) :: (a.oL ++ (gLM 138 a.o a.ms.length (a.ms.flatMap mlV) 68 ++ a.ms.flatMap mbL)) : List (Nat × Blk))
def accR (a : PAcc) : List (Nat × Blk) := hid 0 ((a.p, .cells [(32, iv .u8 a.link), (32, iv .u8 a.idn), (32, iv .u8 a.sig), (32, iv .u8 a.b3), (1, [.bool a.hs]), (1, [.slice a.oA a.on a.oc]), (1, [.pointer (some ⟨a.bx, 0, none⟩)]), (1, [.pointer (some ⟨a.tk, 0, none⟩)]), (1, [.bool a.susp])] 137) :: (a.bx, .cells [(1, [.slice (gA a.o) a.ms.length (gC a.o)]), (1, [.int .i64 a.many])] 133) :: (a.tk, .cells (bkt 5 10 a.t a.n) 247) :: (a.oL ++ (gLM 138 a.o a.ms.length (a.ms.flatMap mlV) 138 ++ a.ms.flatMap mbL)) : List (Nat × Blk))
theorem AOK.sr {a : PAcc} (h : AOK a) {w0 w : World} {O : List Nat} {L L' : List (Nat × Blk)} (hp : HP w0 w O L) (hd : DelL a.oL L L' := by exact dell) : SrW w 32 a.oA a.on (a.ks.flatMap (iv .u8)) :=
  h.once w fun p hm => (hp.perm hd.perm.symm).held p (List.mem_append_left _ hm)
/-- A new one's. -/
def AAcc.new (link idn sig : List Int) (ks : List (List Int)) : AAcc := ⟨link, idn, sig, ks, [], 0, 0, 5, false⟩
def fetL (a : AAcc) : AAcc := { a with once := a.once.drop 1 }
def susL (a : AAcc) (b : Bool) : AAcc := { a with susp := b }
def ackA (a : AAcc) (id : Int) : AAcc := { a with ms := ackL a.ms a.many id }
def bunV (idn sig k : List Int) (h : Bool) : List Seg := [(32, iv .u8 idn), (32, iv .u8 sig), (32, iv .u8 k), (1, [.bool h])]
def bunA (a : AAcc) : List Seg := match a.once with
  | [] => bunV a.idn a.sig (List.replicate 32 0) false
  | k :: _ => bunV a.idn a.sig k true
def bun0 : List Seg := bunV (List.replicate 32 0) (List.replicate 32 0) (List.replicate 32 0) false
theorem once_len {ks : List (List Int)} (h : ∀ k ∈ ks, k.length = 32) : (ks.flatMap (iv .u8)).length = ks.length * 32 := flatMap_len' fun k hk => by rw [iv_len, h k hk]
theorem once_one {ks : List (List Int)} : ∀ v ∈ ks.flatMap (iv .u8), Go.X.one v = true := fun v hv => by
  obtain ⟨k, _, hk⟩ := List.mem_flatMap.1 hv
  exact iv_one _ hk

theorem new19_calls (w : World) : Calls Try.prog 48 #[] w fun e w' => ∃ r : Nat, True ∧ e = .returned (.pointer (some ⟨r, 0, none⟩)) ∧ HP w w' [] [(r, .cells [(1, [.slice none 0 0]), (1, [.int .i64 0])] 190)] := by
 refine calls_of_W Try.func48 rfl Try.ntmps48 rfl rfl (HP.refl w []) ?_
 refine sr ?_
 refine oas ?_
 refine nx ?_
 refine ov (V_build (by kernel_rfl) (zi (zs := [(1, [.slice none 0 0]), (1, [.int .i64 0])])) (.nil _)) ?_
 refine obxa (fun b2 => ?_)
 refine oas ?_
 refine nq ?_
 refine W.ret ?_
 refine WQ.ret1 Try.results48 (.tmp rfl) ?_
 intro w' hp; exact ⟨b2, trivial, rfl, hp.cov cov⟩

end Go.Proofs.Ytmeckbjinmgbbaa