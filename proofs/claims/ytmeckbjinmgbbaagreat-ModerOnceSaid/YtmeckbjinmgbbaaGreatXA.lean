/- The base of our own walk: a state of slots and tracked blocks, and the rules for code, regions, loops and calls over it. -/
import Derived.WalkKit
import Derived.OrdersHeld
import Derived.Laws.LoneSync
import Derived.ChangeKeysEq
import Derived.OpenShut
set_option linter.unusedVariables false
set_option linter.unusedSimpArgs false

namespace Go.X

theorem blt_lt {a b : Nat} (h : Nat.blt a b = true) : a < b := Nat.le_of_ble_eq_true h

abbrev Seg := Nat × List Value
def flat (c : List Seg) : List Value := c.flatMap (·.2)
def Fit (c : List Seg) : Prop := ∀ s ∈ c, s.2.length = s.1

/-- A tracked block: cells in segments, of an element type; or another object. -/
inductive Blk where
  | cells (c : List Seg) (t : TypeId)
  | ro (c : List Seg)
  | obj (o : Obj)

def Blk.Is : Blk → Option Obj → Prop
  | .cells c t, o => Fit c ∧ o = some (.cells (flat c).toArray t (0, 0))
  | .ro c, o => Fit c ∧ ∃ t fz, o = some (.cells (flat c).toArray t fz)
  | .obj x, o => (∀ c t f, x ≠ .cells c t f) ∧ o = some x

/-- Since the world w0: what is in O may have changed; L tells blocks of O, or new ones. -/
structure HP (w0 w : World) (O : List Nat) (L : List (Nat × Blk)) : Prop where
  os : w.os = w0.os
  tape : w.tape = w0.tape
  output : w.output = w0.output
  size : w0.heap.size ≤ w.heap.size
  keep : ∀ b, b < w0.heap.size → b ∉ O → w.heap[b]? = w0.heap[b]?
  held : ∀ p ∈ L, p.2.Is w.heap[p.1]?
  own : ∀ p ∈ L, p.1 ∈ O ∨ w0.heap.size ≤ p.1
  nodup : (L.map (·.1)).Nodup

abbrev Slots := List (Nat × Value)
def slot (S : Slots) (t : Nat) : Option Value := S.lookup t

structure Sl (n : Nat) (a : Act) (S : Slots) : Prop where
  size : a.tmps.size = n
  defers : a.defers = []
  get : ∀ t v, slot S t = some v → a.tmps[t]? = some v

def ev (S : Slots) : Operand → Option Value
  | .tmp t => slot S t
  | .const v => some v
  | .global g => some (.pointer (some ⟨g, 0, none⟩))
  | .func f => some (.func (.func f) #[] #[])

structure Cx where
  P : Program
  n : Nat
  w0 : World
  O : List Nat

structure St (c : Cx) (S : Slots) (L : List (Nat × Blk)) (a : Act) (w : World) : Prop where
  sl : Sl c.n a S
  hp : HP c.w0 w c.O L

abbrev Post := Exit → Act → World → Prop

def W (c : Cx) (x : Code) (Q : Post) (S : Slots) (L : List (Nat × Blk)) : Prop := ∀ a w, St c S L a w → x.wp c.P Q a w
def WQ (c : Cx) (Q : Post) (e : Exit) (S : Slots) (L : List (Nat × Blk)) : Prop := ∀ a w, St c S L a w → Q e a w
def WL (c : Cx) (ops : Array Oper) (Q : Post) (l : List Oper) (S : Slots) (L : List (Nat × Blk)) : Prop := ∀ a w, St c S L a w → wpList c.P ops Q l a w

/-! ### the state -/
theorem HP.refl (w : World) (O : List Nat) : HP w w O [] :=
  ⟨rfl, rfl, rfl, Nat.le_refl _, fun _ _ _ => rfl, (fun _ h => by cases h), (fun _ h => by cases h), List.nodup_nil⟩

theorem HP.drew {w0 w : World} {O : List Nat} {L : List (Nat × Blk)} (h : HP w0 w O L) (n : Nat) : HP w0 { w with drawn := n } O L :=
  ⟨h.os, h.tape, h.output, h.size, h.keep, h.held, h.own, h.nodup⟩

theorem HP.sub {w0 w : World} {O : List Nat} {L L' : List (Nat × Blk)} (h : HP w0 w O L) (hs : L'.Sublist L) : HP w0 w O L' :=
  ⟨h.os, h.tape, h.output, h.size, h.keep, fun p hp => h.held p (hs.subset hp), fun p hp => h.own p (hs.subset hp), h.nodup.sublist (hs.map _)⟩

theorem HP.perm {w0 w : World} {O : List Nat} {L L' : List (Nat × Blk)} (h : HP w0 w O L) (hs : L'.Perm L) : HP w0 w O L' :=
  ⟨h.os, h.tape, h.output, h.size, h.keep, fun p hp => h.held p (hs.subset hp), fun p hp => h.own p (hs.subset hp), (hs.map _).nodup_iff.2 h.nodup⟩

theorem Blk.Is.some {k : Blk} {o : Option Obj} (h : k.Is o) : ∃ x, o = some x := by
  cases k with
  | cells c t => exact ⟨_, h.2⟩
  | ro c => obtain ⟨_, t, fz, h⟩ := h; exact ⟨_, h⟩
  | obj x => exact ⟨_, h.2⟩

theorem HP.lt {w0 w : World} {O : List Nat} {L : List (Nat × Blk)} (h : HP w0 w O L) {p : Nat × Blk} (hp : p ∈ L) : p.1 < w.heap.size := by
  obtain ⟨x, hx⟩ := (h.held p hp).some
  exact (Array.getElem?_eq_some_iff.1 hx).1

theorem alloc_heap (w : World) (o : Obj) (k : Nat) : (w.alloc o).heap[k]? = if k = w.heap.size then some o else w.heap[k]? := by
  show (w.heap.push o)[k]? = _
  rw [Array.getElem?_push]

/-- A new block. -/
theorem HP.alloc {w0 w : World} {O : List Nat} {L : List (Nat × Blk)} (h : HP w0 w O L) {o : Obj} {k : Blk} (hk : k.Is (some o)) :
    HP w0 (w.alloc o) O ((w.heap.size, k) :: L) := by
  refine ⟨h.os, h.tape, h.output, ?_, ?_, ?_, ?_, ?_⟩
  · have := h.size; simp; omega
  · intro b hb hO
    rw [alloc_heap, if_neg (by have := h.size; omega)]
    exact h.keep b hb hO
  · intro p hp
    rw [alloc_heap]
    cases hp with
    | head => simpa using hk
    | tail _ hp => rw [if_neg (by have := h.lt hp; omega)]; exact h.held p hp
  · intro p hp
    cases hp with
    | head => exact .inr h.size
    | tail _ hp => exact h.own p hp
  · simp only [List.map_cons, List.nodup_cons]
    refine ⟨fun hm => ?_, h.nodup⟩
    obtain ⟨p, hp, he⟩ := List.mem_map.1 hm
    have := h.lt hp
    omega

/-- One block gets another content. -/
inductive Upd (b : Nat) (k : Blk) : List (Nat × Blk) → Blk → List (Nat × Blk) → Prop where
  | here (k0 : Blk) (l : List (Nat × Blk)) : Upd b k ((b, k0) :: l) k0 ((b, k) :: l)
  | there (x : Nat × Blk) {l l' : List (Nat × Blk)} {k0 : Blk} (h : Upd b k l k0 l') : Upd b k (x :: l) k0 (x :: l')

theorem Upd.mem {b : Nat} {k k0 : Blk} {l l' : List (Nat × Blk)} (h : Upd b k l k0 l') : (b, k0) ∈ l := by
  induction h with
  | here => exact List.mem_cons_self
  | there x _ ih => exact List.mem_cons_of_mem _ ih

theorem Upd.keys {b : Nat} {k k0 : Blk} {l l' : List (Nat × Blk)} (h : Upd b k l k0 l') : l'.map (·.1) = l.map (·.1) := by
  induction h with
  | here => rfl
  | there x _ ih => simp [ih]

theorem Upd.of_mem {b : Nat} {k k0 : Blk} {l l' : List (Nat × Blk)} (h : Upd b k l k0 l') (hn : (l.map (·.1)).Nodup) : ∀ p ∈ l', (p.1 = b ∧ p.2 = k) ∨ (p.1 ≠ b ∧ p ∈ l) := by
  induction h with
  | here k0 l =>
    intro p hp
    simp only [List.map_cons, List.nodup_cons] at hn
    cases hp with
    | head => exact .inl ⟨rfl, rfl⟩
    | tail _ hp => exact .inr ⟨fun e => hn.1 (by rw [← e]; exact List.mem_map.2 ⟨p, hp, rfl⟩), List.mem_cons_of_mem _ hp⟩
  | there x h ih =>
    intro p hp
    simp only [List.map_cons, List.nodup_cons] at hn
    cases hp with
    | head => exact .inr ⟨fun e => hn.1 (by rw [e]; exact List.mem_map.2 ⟨_, h.mem, rfl⟩), List.mem_cons_self⟩
    | tail _ hp =>
      rcases ih hn.2 p hp with h1 | ⟨h1, h2⟩
      · exact .inl h1
      · exact .inr ⟨h1, List.mem_cons_of_mem _ h2⟩

/-- A world that differs from another one in one tracked block alone. -/
theorem HP.upd {w0 w w' : World} {O : List Nat} {L L' : List (Nat × Blk)} (h : HP w0 w O L) {b : Nat} {k k0 : Blk} (hu : Upd b k L k0 L')
    (hos : w'.os = w.os) (ht : w'.tape = w.tape) (ho : w'.output = w.output) (hs : w'.heap.size = w.heap.size) (hb : ∀ i, i ≠ b → w'.heap[i]? = w.heap[i]?) (hk : k.Is w'.heap[b]?) : HP w0 w' O L' := by
  refine ⟨hos.trans h.os, ht.trans h.tape, ho.trans h.output, by rw [hs]; exact h.size, ?_, ?_, ?_, ?_⟩
  · intro i hi hO
    rw [hb i, h.keep i hi hO]
    intro e; subst e
    rcases h.own _ hu.mem with h1 | h1
    · exact hO h1
    · simp at h1; omega
  · intro p hp
    rcases hu.of_mem h.nodup p hp with ⟨h1, h2⟩ | ⟨h1, h2⟩
    · rw [h1, h2]; exact hk
    · rw [hb _ h1]; exact h.held p h2
  · intro p hp
    have : p.1 ∈ L'.map (·.1) := List.mem_map.2 ⟨p, hp, rfl⟩
    rw [hu.keys] at this
    obtain ⟨q, hq, he⟩ := List.mem_map.1 this
    rw [← he]; exact h.own q hq
  · rw [hu.keys]; exact h.nodup

/-! ### slots -/
theorem Sl.put {n : Nat} {a : Act} {S : Slots} (h : Sl n a S) {d : Nat} (hd : d < n) (v : Value) : Sl n (a.put (some d) v) ((d, v) :: S) := by
  refine ⟨by simp [Act.put, h.size], h.defers, fun t u ht => ?_⟩
  simp only [slot, List.lookup_cons] at ht
  simp only [Act.put]
  by_cases e : t = d
  · subst e
    simp at ht
    subst ht
    simp [h.size, hd]
  · rw [Array.getElem?_setIfInBounds_ne (by omega)]
    have : (t == d) = false := by simpa using e
    rw [this] at ht
    exact h.get t u ht

theorem Sl.ev {n : Nat} {a : Act} {S : Slots} (h : Sl n a S) {x : Operand} {v : Value} (hx : ev S x = some v) : a.eval x = v := by
  cases x with
  | tmp t =>
    have := h.get t v hx
    simp [Act.eval, Array.getD_eq_getD_getElem?, this]
  | const u => exact Option.some.inj hx
  | global g => exact Option.some.inj hx
  | func f => exact Option.some.inj hx

theorem Sl.sub {n : Nat} {a : Act} {S S' : Slots} (h : Sl n a S) (hs : ∀ t v, slot S' t = some v → slot S t = some v) : Sl n a S' :=
  ⟨h.size, h.defers, fun t v ht => h.get t v (hs t v ht)⟩

/-- Only the slots that are named. -/
def pick (S : Slots) : List Nat → Slots
  | [] => []
  | t :: r => match slot S t with
    | some v => (t, v) :: pick S r
    | none => pick S r

theorem pick_sub (S : Slots) : ∀ (ks : List Nat) t v, slot (pick S ks) t = some v → slot S t = some v
  | [], t, v, h => by simp [pick, slot] at h
  | k :: r, t, v, h => by
    unfold pick at h
    split at h
    · rename_i u hu
      simp only [slot, List.lookup_cons] at h
      by_cases e : t = k
      · subst e; simp at h; rw [hu, h]
      · have : (t == k) = false := by simpa using e
        rw [this] at h
        exact pick_sub S r t v h
    · exact pick_sub S r t v h

/-! ### rules for code -/
section
variable {c : Cx} {Q : Post} {S S' : Slots} {L L' : List (Nat × Blk)}

theorem W.pick (ks : List Nat) {x : Code} (hS : pick S ks = S') (h : W c x Q S' L) : W c x Q S L :=
  fun a w st => h a w ⟨st.sl.sub (hS ▸ pick_sub S ks), st.hp⟩
theorem W.sub {x : Code} (hL : L'.Sublist L) (h : W c x Q S L') : W c x Q S L := fun a w st => h a w ⟨st.sl, st.hp.sub hL⟩
theorem W.perm {x : Code} (hL : L'.Perm L) (h : W c x Q S L') : W c x Q S L := fun a w st => h a w ⟨st.sl, st.hp.perm hL⟩

theorem W.skip (h : WQ c Q .normal S L) : W c .skip Q S L := fun a w st => wp_skip (h a w st)
theorem W.exit {id : Nat} (h : WQ c Q (.exit id) S L) : W c (.exit id) Q S L := fun a w st => wp_exit (h a w st)
theorem W.ret (h : WQ c Q .ret S L) : W c .ret Q S L := fun a w st => wp_ret (h a w st)
theorem W.seq {x y : Code} (h : W c x (Exit.then (y.wp c.P Q) Q) S L) : W c (.seq x y) Q S L := fun a w st => wp_seq (h a w st)
theorem W.block {id : Nat} {x : Code} (h : W c x (Exit.inBlock id Q) S L) : W c (.block id x) Q S L := fun a w st => wp_block (h a w st)

theorem W.cond {t : Operand} {x y : Code} {b : Bool} (hc : ev S t = some (.bool b)) (h1 : b = true → W c x Q S L) (h2 : b = false → W c y Q S L) : W c (.cond t x y) Q S L :=
  fun a w st => wp_cond_split (st.sl.ev hc) (fun e => h1 e a w st) (fun e => h2 e a w st)
theorem W.cond_dec {t : Operand} {x y : Code} {p : Prop} [Decidable p] (hc : ev S t = some (.bool (decide p))) (h1 : p → W c x Q S L) (h2 : ¬ p → W c y Q S L) : W c (.cond t x y) Q S L :=
  W.cond hc (fun e => h1 (of_decide_eq_true e)) (fun e => h2 (of_decide_eq_false e))
theorem W.cond_true {t : Operand} {x y : Code} {b : Bool} (hc : ev S t = some (.bool b)) (hb : b = true) (h1 : W c x Q S L) : W c (.cond t x y) Q S L :=
  W.cond hc (fun _ => h1) (fun e => by rw [hb] at e; cases e)
theorem W.cond_false {t : Operand} {x y : Code} {b : Bool} (hc : ev S t = some (.bool b)) (hb : b = false) (h1 : W c y Q S L) : W c (.cond t x y) Q S L :=
  W.cond hc (fun e => by rw [hb] at e; cases e) (fun _ => h1)

theorem WQ.then {y : Code} (h : W c y Q S L) : WQ c (Exit.then (y.wp c.P Q) Q) .normal S L := h
theorem WQ.then_exit {K : Act → World → Prop} {id : Nat} (h : WQ c Q (.exit id) S L) : WQ c (Exit.then K Q) (.exit id) S L := h
theorem WQ.then_ret {K : Act → World → Prop} (h : WQ c Q .ret S L) : WQ c (Exit.then K Q) .ret S L := h
theorem WQ.block_normal {id : Nat} (h : WQ c Q .normal S L) : WQ c (Exit.inBlock id Q) .normal S L := h
theorem WQ.block_ret {id : Nat} (h : WQ c Q .ret S L) : WQ c (Exit.inBlock id Q) .ret S L := h
theorem WQ.block_hit {id : Nat} (h : WQ c Q .normal S L) : WQ c (Exit.inBlock id Q) (.exit id) S L := fun a w st => by
  simp only [Exit.inBlock, if_true]; exact h a w st
theorem WQ.pick (ks : List Nat) {e : Exit} (hS : pick S ks = S') (h : WQ c Q e S' L) : WQ c Q e S L :=
  fun a w st => h a w ⟨st.sl.sub (hS ▸ pick_sub S ks), st.hp⟩
theorem WQ.sub {e : Exit} (hL : L'.Sublist L) (h : WQ c Q e S L') : WQ c Q e S L := fun a w st => h a w ⟨st.sl, st.hp.sub hL⟩

/-- A round is over: what holds at the next one's head. -/
def Again (c : Cx) {σ : Type} (I : σ → Prop) (Sf : σ → Slots) (Lf : σ → List (Nat × Blk)) (μ : σ → Nat) (s : σ) : Act → World → Prop := fun a w => ∃ s', I s' ∧ μ s' < μ s ∧ St c (Sf s') (Lf s') a w

/-- A loop: what holds at each round's head, over a state of the prover's own. -/
theorem W.loop {σ : Type} {x : Code} (I : σ → Prop) (Sf : σ → Slots) (Lf : σ → List (Nat × Blk)) (μ : σ → Nat) (s0 : σ) (hS : Sf s0 = S) (hL : Lf s0 = L) (h0 : I s0)
    (round : ∀ s, I s → W c x (Exit.then (Again c I Sf Lf μ s) Q) (Sf s) (Lf s)) : W c (.loop x) Q S L := by
  subst hS; subst hL
  intro a w st b k cs
  have key : ∀ n s a w, μ s = n → I s → St c (Sf s) (Lf s) a w →
      ∃ e a' w', Q e a' w' ∧ Arrives c.P (lone (b.at a (.code x :: .inLoop x :: k)) cs w) b k cs e a' w' := by
    intro n
    induction n using Nat.strongRecOn with
    | _ n ih =>
      intro s a w hn hI st
      obtain ⟨e, a₁, w₁, hq, harr⟩ := round s hI a w st b (.inLoop x :: k) cs
      cases e with
      | normal =>
        obtain ⟨s', hI', hlt, st'⟩ := hq
        obtain ⟨e₂, a₂, w₂, hq₂, harr₂⟩ := ih (μ s') (hn ▸ hlt) s' a₁ w₁ rfl hI' st'
        exact ⟨e₂, a₂, w₂, hq₂, .of_steps (Steps.trans harr (.one step_inLoop)) harr₂⟩
      | exit id => exact ⟨_, a₁, w₁, hq, .pass (x := .inLoop x) rfl (fun _ _ => .inl (by simp)) harr⟩
      | goto l => exact ⟨_, a₁, w₁, hq, .pass (x := .inLoop x) rfl (fun _ _ => .inl (by simp)) harr⟩
      | ret => exact ⟨_, a₁, w₁, hq, .pass (x := .inLoop x) rfl (fun _ _ => .inl (by simp)) harr⟩
      | panic ch => exact ⟨_, a₁, w₁, hq, .pass (x := .inLoop x) rfl (fun _ _ => .inl (by simp)) harr⟩
      | outgrown => exact ⟨_, a₁, w₁, hq, .pass (x := .inLoop x) rfl (fun _ _ => .inl (by simp)) harr⟩
  obtain ⟨e, a', w', hq, harr⟩ := key _ s0 a w rfl h0 st
  exact ⟨e, a', w', hq, .of_steps (.one step_loop) harr⟩

/-- A round's end. -/
theorem WQ.again {σ : Type} {I : σ → Prop} {Sf : σ → Slots} {Lf : σ → List (Nat × Blk)} {μ : σ → Nat} {s : σ} (s' : σ) (ks : List Nat) (hI : I s') (hμ : μ s' < μ s) (hS : X.pick S ks = Sf s') (hL : (Lf s').Sublist L) :
    WQ c (Exit.then (Again c I Sf Lf μ s) Q) .normal S L :=
  fun _ _ st => ⟨s', hI, hμ, st.sl.sub (hS ▸ pick_sub S ks), st.hp.sub hL⟩

/-! ### regions whose order is settled -/
theorem W.region {id : Nat} {l : List Oper} (h : WL c l.toArray Q l S L) : W c (.region id l.toArray false) Q S L := fun a w st => wp_region_lit (h a w st)
theorem WL.nil {ops : Array Oper} (h : WQ c Q .normal S L) : WL c ops Q [] S L := fun a w st => wpList_nil (h a w st)

/-- An operation, by itself. -/
def ex (ρ : Operand → Value) (op : Op) (ty : TypeId) : Sem Next := execOp ρ ⟨none, op, ty, "", #[], none⟩

theorem ex_eq (ρ : Operand → Value) (d : Option Tmp) (op : Op) (ty : TypeId) (pos : String) (af : Array Edge) (g : Option (Nat × Bool)) : execOp ρ ⟨d, op, ty, pos, af, g⟩ = ex ρ op ty := by
  cases op <;> rfl

/-- It yields v, and changes nothing. -/
def Val (c : Cx) (S : Slots) (L : List (Nat × Blk)) (op : Op) (ty : TypeId) (v : Value) : Prop := ∀ a w, St c S L a w → (ex a.eval op ty).run c.P w = .ok (.value v) w

/-- It yields a value, in another world. -/
def Eff (c : Cx) (S : Slots) (L : List (Nat × Blk)) (op : Op) (ty : TypeId) (R : Value → List (Nat × Blk) → Prop) : Prop :=
  ∀ a w, St c S L a w → ∃ v w' L', ((ex a.eval op ty).run c.P w = .ok (.value v) w' ∨ ((ex a.eval op ty).run c.P w = .ok .skip w' ∧ v = undef)) ∧ HP c.w0 w' c.O L' ∧ R v L'

/-- It calls a function. -/
def Cal (c : Cx) (S : Slots) (L : List (Nat × Blk)) (op : Op) (ty : TypeId) (R : Value → List (Nat × Blk) → Prop) : Prop :=
  ∀ a w, St c S L a w → ∃ f args, (ex a.eval op ty).run c.P w = .ok (.enter f args) w ∧ Calls c.P f args w fun e w' => ∃ v L', e = .returned v ∧ HP c.w0 w' c.O L' ∧ R v L'

def putS (d : Option Tmp) (v : Value) (S : Slots) : Slots := match d with
  | some d => (d, v) :: S
  | none => S

def inB (n : Nat) : Option Tmp → Bool
  | some d => Nat.blt d n
  | none => true

theorem Sl.putS {n : Nat} {a : Act} {S : Slots} (h : Sl n a S) {d : Option Tmp} (hd : inB n d = true) (v : Value) : Sl n (a.put d v) (putS d v S) := by
  cases d with
  | none => exact h
  | some d => exact h.put (blt_lt hd) v

variable {ops : Array Oper} {d : Option Tmp} {op : Op} {ty : TypeId} {pos : String} {af : Array Edge} {rest : List Oper}

theorem WL.val {t : Tmp} {v : Value} (hd : Nat.blt t c.n = true) (hv : Val c S L op ty v) (k : WL c ops Q rest ((t, v) :: S) L) : WL c ops Q (⟨some t, op, ty, pos, af, none⟩ :: rest) S L := fun a w st => by
  have h := hv a w st
  rw [← ex_eq a.eval (some t) op ty pos af none] at h
  refine wpList_plain rfl fun K hK => ?_
  unfold Oper.wp
  rw [h]
  exact hK _ _ (k _ _ ⟨st.sl.put (blt_lt hd) v, st.hp⟩)

theorem WL.eff {R : Value → List (Nat × Blk) → Prop} (hd : inB c.n d = true) (hv : Eff c S L op ty R) (k : ∀ v L', R v L' → WL c ops Q rest (putS d v S) L') : WL c ops Q (⟨d, op, ty, pos, af, none⟩ :: rest) S L := fun a w st => by
  obtain ⟨v, w', L', h, hp, r⟩ := hv a w st
  rw [← ex_eq a.eval d op ty pos af none] at h
  refine wpList_plain rfl fun K hK => ?_
  unfold Oper.wp
  rcases h with h | ⟨h, rfl⟩
  · rw [h]; exact hK _ _ (k v L' r _ _ ⟨st.sl.putS hd v, hp⟩)
  · rw [h]; exact hK _ _ (k _ L' r _ _ ⟨st.sl.putS hd _, hp⟩)

theorem WL.cal {R : Value → List (Nat × Blk) → Prop} (hd : inB c.n d = true) (hv : Cal c S L op ty R) (k : ∀ v L', R v L' → WL c ops Q rest (putS d v S) L') : WL c ops Q (⟨d, op, ty, pos, af, none⟩ :: rest) S L := fun a w st => by
  obtain ⟨f, args, h, hc⟩ := hv a w st
  rw [← ex_eq a.eval d op ty pos af none] at h
  refine wpList_plain rfl fun K hK => ?_
  unfold Oper.wp
  rw [h]
  refine hc.mono fun e w' ⟨v, L', he, hp, r⟩ => ?_
  subst he
  exact hK _ _ (k v L' r _ _ ⟨st.sl.putS hd v, hp⟩)

/-- A guard: what the guarding operation yielded. -/
def guardOf (ops : Array Oper) (S : Slots) (j : Nat) : Option Value := ((ops[j]?).bind (·.dst)).bind (slot S)

theorem yielded_of {ops : Array Oper} {n : Nat} {a : Act} {S : Slots} (h : Sl n a S) {j : Nat} {b : Bool} (hg : guardOf ops S j = some (.bool b)) : yielded ops a.tmps j = some b := by
  unfold guardOf at hg
  unfold yielded
  cases hd : (ops[j]?).bind (·.dst) with
  | none => rw [hd] at hg; cases hg
  | some t =>
    rw [hd] at hg
    have := h.get t _ hg
    simp [this]

/-- A guarded operation whose guard says no. -/
theorem WL.no {t : Tmp} {j : Nat} {b b' : Bool} (hd : Nat.blt t c.n = true) (hg : guardOf ops S j = some (.bool b')) (hb : b' = !b) (k : WL c ops Q rest ((t, undef) :: S) L) : WL c ops Q (⟨some t, op, ty, pos, af, some (j, b)⟩ :: rest) S L := fun a w st => by
  refine wpList_skip ?_ (k _ _ ⟨st.sl.put (blt_lt hd) _, st.hp⟩)
  have := yielded_of st.sl hg
  subst hb
  cases b <;> simp [Region.wanted, this]

/-- One whose guard says yes is as one without. -/
theorem WL.yes {j : Nat} {b b' : Bool} (hg : guardOf ops S j = some (.bool b')) (hb : b' = b) (k : WL c ops Q (⟨d, op, ty, pos, af, none⟩ :: rest) S L) : WL c ops Q (⟨d, op, ty, pos, af, some (j, b)⟩ :: rest) S L := fun a w st => by
  have := yielded_of st.sl hg
  have k' := k a w st
  subst hb
  unfold wpList at k' ⊢
  have e : Region.wanted (⟨d, op, ty, pos, af, some (j, b')⟩ : Oper) (yielded ops a.tmps) = true := by
    cases b' <;> simp [Region.wanted, this]
  have e' : Region.wanted (⟨d, op, ty, pos, af, none⟩ : Oper) (yielded ops a.tmps) = true := by simp [Region.wanted]
  rw [if_pos e']  at k'
  rw [if_pos e]
  have q : ∀ (K : Act → World → Prop), Oper.wp c.P ⟨d, op, ty, pos, af, some (j, b')⟩ a w K Q = Oper.wp c.P ⟨d, op, ty, pos, af, none⟩ a w K Q := fun K => by
    unfold Oper.wp
    rw [ex_eq, ex_eq]
    rfl
  have q' : Oper.asks c.P ⟨d, op, ty, pos, af, some (j, b')⟩ a w = Oper.asks c.P ⟨d, op, ty, pos, af, none⟩ a w := by
    unfold Oper.asks
    rw [ex_eq, ex_eq]
  rw [q, q']
  exact k'

end
end Go.X

/- What single operations yield, over slots and tracked blocks. -/
namespace Go.X
open Go.RowKit

/-! ### facts on types -/
def scB (P : Program) (t : TypeId) : Bool := match P.info? t, P.underlying t with
  | some i, some d => i.size == 1 && (match d with | .struct _ | .array _ _ => false | _ => true)
  | _, _ => false
def agB (P : Program) (t : TypeId) (n : Nat) : Bool := match P.info? t, P.underlying t with
  | some i, some d => i.size == n && (match d with | .struct _ | .array _ _ => true | _ => false)
  | _, _ => false
def szB (P : Program) (t : TypeId) (n : Nat) : Bool := match P.info? t with
  | some i => i.size == n
  | none => false
/-- Field f of struct type t: of n cells (not 0), at offset k. -/
def fldB (P : Program) (t : TypeId) (f k n : Nat) : Bool := match P.underlying t with
  | some (.struct fs) => (match fs[f]? with
    | some x => x.offset == k && szB P x.type n && n != 0
    | none => false)
  | _ => false
def arB (P : Program) (t : TypeId) (n s : Nat) : Bool := match P.underlying t with
  | some (.array m e') => m == n && szB P e' s
  | _ => false
def slB (P : Program) (t : TypeId) (s : Nat) : Bool := match P.underlying t with
  | some (.slice e') => szB P e' s
  | _ => false
def ptB (P : Program) (t : TypeId) : Bool := match P.underlying t with
  | some (.pointer _) => true
  | _ => false
def boB (P : Program) (t : TypeId) : Bool := match P.underlying t with
  | some .bool => true
  | _ => false
def inB' (P : Program) (t : TypeId) (k : IntKind) : Bool := match P.underlying t with
  | some (.int k') => k == k'
  | _ => false

section
variable {P : Program} {w : World}
theorem run_isAgg_sc {t : TypeId} (h : scB P t = true) : (isAgg t).run P w = .ok false w := by
  unfold scB at h
  split at h <;> try (cases h; done)
  rename_i i d _ hu
  simp only [Bool.and_eq_true] at h
  cases d <;> simp [isAgg, run_underlying hu] at h ⊢
theorem run_isAgg_ag {t : TypeId} {n : Nat} (h : agB P t n = true) : (isAgg t).run P w = .ok true w := by
  unfold agB at h
  split at h <;> try (cases h; done)
  rename_i i d _ hu
  simp only [Bool.and_eq_true] at h
  cases d <;> simp [isAgg, run_underlying hu] at h ⊢
theorem run_sizeOf_sz {t : TypeId} {n : Nat} (h : szB P t n = true) : (sizeOf t).run P w = .ok n w := by
  unfold szB at h
  split at h <;> try (cases h; done)
  rename_i i hi
  simp only [beq_iff_eq] at h
  simp [sizeOf, run_typeInfo _ hi, h]
theorem sz_of_ag {t : TypeId} {n : Nat} (h : agB P t n = true) : szB P t n = true := by
  unfold agB at h; unfold szB
  split at h <;> simp_all
end

/-! ### contents -/
def one : Value → Bool
  | .agg _ | .tuple _ => false
  | _ => true

/-- An aggregate out of segments. -/
def AG (c : List Seg) : Value := .agg (flat c).toArray

def consS (s : Seg) : Option (List Seg) → Option (List Seg)
  | some r => some (s :: r)
  | none => none
theorem consS_some {s : Seg} {o : Option (List Seg)} {c : List Seg} (h : consS s o = some c) : ∃ r, o = some r ∧ s :: r = c := by
  cases o with
  | none => cases h
  | some r => exact ⟨r, rfl, Option.some.inj h⟩

def cell1 : List Seg → Nat → Option Value
  | [], _ => none
  | (m, l) :: r, i => if Nat.blt i m then l[i]? else cell1 r (i - m)
def set1 : List Seg → Nat → Value → Option (List Seg)
  | [], _, _ => none
  | (m, l) :: r, i, v => if Nat.ble m i then consS (m, l) (set1 r (i - m) v) else if Nat.beq m 1 then some ((1, [v]) :: r) else none
/-- Whole segments, n cells of them. -/
def takeS : List Seg → Nat → Option (List Seg)
  | [], n => if Nat.beq n 0 then some [] else none
  | (m, l) :: r, n => if Nat.beq n 0 then some [] else if Nat.ble m n then consS (m, l) (takeS r (n - m)) else none
/-- Whole segments from offset i on. -/
def subS : List Seg → Nat → Nat → Option (List Seg)
  | [], i, n => if Nat.beq i 0 then takeS [] n else none
  | (m, l) :: r, i, n => if Nat.beq i 0 then takeS ((m, l) :: r) n else if Nat.ble m i then subS r (i - m) n else none
def dropS : List Seg → Nat → List Seg → Option (List Seg)
  | [], n, d => if Nat.beq n 0 then some d else none
  | (m, l) :: r, n, d => if Nat.beq n 0 then some (d ++ (m, l) :: r) else if Nat.ble m n then dropS r (n - m) d else none
def putAt : List Seg → Nat → Nat → List Seg → Option (List Seg)
  | [], i, n, d => if Nat.beq i 0 then dropS [] n d else none
  | (m, l) :: r, i, n, d => if Nat.beq i 0 then dropS ((m, l) :: r) n d else if Nat.ble m i then consS (m, l) (putAt r (i - m) n d) else none

theorem flat_cons (m : Nat) (l : List Value) (r : List Seg) : flat ((m, l) :: r) = l ++ flat r := by simp [flat]
theorem flat_append (a b : List Seg) : flat (a ++ b) = flat a ++ flat b := by simp [flat]
theorem Fit.cons {m : Nat} {l : List Value} {r : List Seg} (h : Fit ((m, l) :: r)) : l.length = m ∧ Fit r :=
  ⟨h (m, l) List.mem_cons_self, fun s hs => h s (List.mem_cons_of_mem _ hs)⟩
theorem Fit.nil : Fit [] := fun _ h => by cases h
theorem Fit.mk {m : Nat} {l : List Value} {r : List Seg} (h : l.length = m) (hr : Fit r) : Fit ((m, l) :: r) := fun s hs => by
  cases hs with
  | head => exact h
  | tail _ hs => exact hr s hs
theorem Fit.append {a b : List Seg} (ha : Fit a) (hb : Fit b) : Fit (a ++ b) := fun s hs => by
  rcases List.mem_append.1 hs with h | h
  · exact ha s h
  · exact hb s h

theorem cell1_flat : ∀ {c : List Seg} {i : Nat} {v : Value}, Fit c → cell1 c i = some v → (flat c)[i]? = some v
  | [], i, v, _, h => by simp [cell1] at h
  | (m, l) :: r, i, v, hf, h => by
    obtain ⟨hl, hr⟩ := hf.cons
    unfold cell1 at h
    rw [flat_cons]
    split at h
    · rename_i hb
      have := blt_lt hb
      rw [List.getElem?_append_left (by omega)]; exact h
    · rename_i hb
      have : ¬ i < m := fun hlt => hb (by simpa using hlt)
      rw [List.getElem?_append_right (by omega), hl]
      exact cell1_flat hr h

theorem set1_flat : ∀ {c c' : List Seg} {i : Nat} {v : Value}, Fit c → set1 c i v = some c' → flat c' = (flat c).set i v ∧ Fit c' ∧ i < (flat c).length
  | [], c', i, v, _, h => by simp [set1] at h
  | (m, l) :: r, c', i, v, hf, h => by
    obtain ⟨hl, hr⟩ := hf.cons
    unfold set1 at h
    split at h
    · rename_i hb
      have hle := Nat.le_of_ble_eq_true hb
      obtain ⟨c1, h1, rfl⟩ := consS_some h
      obtain ⟨e1, f1, g1⟩ := set1_flat hr h1
      refine ⟨?_, Fit.mk hl f1, ?_⟩
      · rw [flat_cons, flat_cons, e1, List.set_append, if_neg (by omega), hl]
      · rw [flat_cons, List.length_append]; omega
    · rename_i hb
      split at h
      · rename_i h1
        have h1 := Nat.eq_of_beq_eq_true h1
        have hi : i = 0 := by
          rcases Nat.lt_or_ge i m with h2 | h2
          · omega
          · exact absurd (Nat.ble_eq_true_of_le h2) hb
        cases h
        subst hi; subst h1
        match l, hl with
        | [x], _ => exact ⟨by simp [flat], Fit.mk rfl hr, by simp [flat]⟩
      · cases h

theorem takeS_flat : ∀ {c c' : List Seg} {n : Nat}, Fit c → takeS c n = some c' → flat c' = (flat c).take n ∧ Fit c' ∧ n ≤ (flat c).length
  | [], c', n, _, h => by
    unfold takeS at h
    split at h
    · rename_i h1
      have h1 := Nat.eq_of_beq_eq_true h1
      cases h; subst h1
      exact ⟨rfl, Fit.nil, Nat.zero_le _⟩
    · cases h
  | (m, l) :: r, c', n, hf, h => by
    obtain ⟨hl, hr⟩ := hf.cons
    unfold takeS at h
    split at h
    · rename_i h1
      have h1 := Nat.eq_of_beq_eq_true h1
      cases h; subst h1
      exact ⟨by simp [flat], Fit.nil, Nat.zero_le _⟩
    · split at h
      · rename_i hb
        have hle := Nat.le_of_ble_eq_true hb
        obtain ⟨c1, h1, rfl⟩ := consS_some h
        obtain ⟨e1, f1, g1⟩ := takeS_flat hr h1
        refine ⟨?_, Fit.mk hl f1, ?_⟩
        · rw [flat_cons, flat_cons, e1, List.take_append, List.take_of_length_le (l := l) (by omega), hl]
        · rw [flat_cons, List.length_append]; omega
      · cases h

theorem subS_flat : ∀ {c c' : List Seg} {i n : Nat}, Fit c → subS c i n = some c' → flat c' = ((flat c).drop i).take n ∧ Fit c' ∧ i + n ≤ (flat c).length
  | [], c', i, n, hf, h => by
    unfold subS at h
    split at h
    · rename_i h1
      have h1 := Nat.eq_of_beq_eq_true h1
      subst h1
      obtain ⟨e, f, g⟩ := takeS_flat hf h
      exact ⟨by simpa using e, f, by omega⟩
    · cases h
  | (m, l) :: r, c', i, n, hf, h => by
    obtain ⟨hl, hr⟩ := hf.cons
    unfold subS at h
    split at h
    · rename_i h1
      have h1 := Nat.eq_of_beq_eq_true h1
      subst h1
      obtain ⟨e, f, g⟩ := takeS_flat hf h
      exact ⟨by simpa using e, f, by omega⟩
    · split at h
      · rename_i hb
        have hle := Nat.le_of_ble_eq_true hb
        obtain ⟨e1, f1, g1⟩ := subS_flat hr h
        refine ⟨?_, f1, ?_⟩
        · rw [e1, flat_cons, List.drop_append, List.drop_of_length_le (l := l) (by omega), List.nil_append, hl]
        · rw [flat_cons, List.length_append]; omega
      · cases h

theorem dropS_flat : ∀ {c c' d : List Seg} {n : Nat}, Fit c → Fit d → dropS c n d = some c' → flat c' = flat d ++ (flat c).drop n ∧ Fit c' ∧ n ≤ (flat c).length
  | [], c', d, n, _, hd, h => by
    unfold dropS at h
    split at h
    · rename_i h1
      have h1 := Nat.eq_of_beq_eq_true h1
      cases h; subst h1
      exact ⟨by simp [flat], hd, Nat.zero_le _⟩
    · cases h
  | (m, l) :: r, c', d, n, hf, hd, h => by
    obtain ⟨hl, hr⟩ := hf.cons
    unfold dropS at h
    split at h
    · rename_i h1
      have h1 := Nat.eq_of_beq_eq_true h1
      cases h; subst h1
      exact ⟨by simp [flat_append], hd.append hf, Nat.zero_le _⟩
    · split at h
      · rename_i hb
        have hle := Nat.le_of_ble_eq_true hb
        obtain ⟨e1, f1, g1⟩ := dropS_flat hr hd h
        refine ⟨?_, f1, ?_⟩
        · rw [e1, flat_cons, List.drop_append, List.drop_of_length_le (l := l) (by omega), List.nil_append, hl]
        · rw [flat_cons, List.length_append]; omega
      · cases h

theorem putAt_flat : ∀ {c c' d : List Seg} {i n : Nat}, Fit c → Fit d → putAt c i n d = some c' → flat c' = (flat c).take i ++ flat d ++ (flat c).drop (i + n) ∧ Fit c' ∧ i + n ≤ (flat c).length
  | [], c', d, i, n, hf, hd, h => by
    unfold putAt at h
    split at h
    · rename_i h1
      have h1 := Nat.eq_of_beq_eq_true h1
      subst h1
      obtain ⟨e, f, g⟩ := dropS_flat hf hd h
      exact ⟨by simpa using e, f, by omega⟩
    · cases h
  | (m, l) :: r, c', d, i, n, hf, hd, h => by
    obtain ⟨hl, hr⟩ := hf.cons
    unfold putAt at h
    split at h
    · rename_i h1
      have h1 := Nat.eq_of_beq_eq_true h1
      subst h1
      obtain ⟨e, f, g⟩ := dropS_flat hf hd h
      exact ⟨by simpa using e, f, by omega⟩
    · split at h
      · rename_i hb
        have hle := Nat.le_of_ble_eq_true hb
        obtain ⟨c1, h1, rfl⟩ := consS_some h
        obtain ⟨e1, f1, g1⟩ := putAt_flat hr hd h1
        refine ⟨?_, Fit.mk hl f1, ?_⟩
        · rw [flat_cons, e1, flat_cons, List.take_append, List.take_of_length_le (l := l) (by omega), hl, List.drop_append, List.drop_of_length_le (l := l) (by omega), hl]
          simp only [List.nil_append, List.append_assoc]
          rw [show i - m + n = i + n - m by omega]
        · rw [flat_cons, List.length_append]; omega
      · cases h

/-! ### blocks that are read -/
/-- Block b holds these cells: a tracked one, or an old one that nobody writes. -/
def At (c : Cx) (L : List (Nat × Blk)) (b : Nat) (cs : List Seg) : Prop :=
  ((∃ t, (b, Blk.cells cs t) ∈ L) ∨ (b, Blk.ro cs) ∈ L) ∨ (b ∉ c.O ∧ Fit cs ∧ ∃ t fz, c.w0.heap[b]? = some (.cells (flat cs).toArray t fz))

theorem At.own {c : Cx} {L : List (Nat × Blk)} {b : Nat} {cs : List Seg} {t : TypeId} (h : (b, Blk.cells cs t) ∈ L) : At c L b cs := .inl (.inl ⟨t, h⟩)

theorem At.here {c : Cx} {S : Slots} {L : List (Nat × Blk)} {b : Nat} {cs : List Seg} (h : At c L b cs) {a : Act} {w : World} (st : St c S L a w) :
    Fit cs ∧ ∃ t fz, w.heap[b]? = some (.cells (flat cs).toArray t fz) := by
  rcases h with (⟨t, h⟩ | h) | ⟨h1, h2, t, fz, h3⟩
  · have := st.hp.held _ h
    exact ⟨this.1, t, _, this.2⟩
  · exact st.hp.held _ h
  · refine ⟨h2, t, fz, ?_⟩
    rw [st.hp.keep b (Array.getElem?_eq_some_iff.1 h3).1 h1]; exact h3

theorem cell_of_heap {w : World} {b : Nat} {l : List Value} {t : TypeId} {fz : Nat × Nat} (h : w.heap[b]? = some (.cells l.toArray t fz)) (i : Nat) : w.cell? ⟨b, i, none⟩ = l[i]? := by
  simp [World.cell?, h]

theorem run_loadCells {P : Program} {w : World} {b : Nat} {l : List Value} {t : TypeId} {fz : Nat × Nat} (h : w.heap[b]? = some (.cells l.toArray t fz)) (o : Nat) : ∀ (n i : Nat) (acc : Array Value), o + i + n ≤ l.length →
    (loadCellsFrom ⟨b, o, none⟩ i n acc).run P w = .ok (acc ++ ((l.drop (o + i)).take n).toArray) w
  | 0, i, acc, _ => by simp [loadCellsFrom]
  | n + 1, i, acc, hle => by
    have hc : w.cell? ((⟨b, o, none⟩ : Addr).add i) = l[o + i]? := by
      by_cases hi : i = 0
      · subst hi; simp [Addr.add, cell_of_heap h]
      · simp [Addr.add, hi, cell_of_heap h]
    have hs : l[o + i]? = some (l[o + i]'(by omega)) := List.getElem?_eq_getElem (by omega)
    simp only [loadCellsFrom, Sem.run_bind, load, Sem.run, hc, hs, Result.andThen_ok]
    rw [run_loadCells h o n (i + 1) _ (by omega)]
    congr 1
    rw [List.drop_eq_getElem_cons (by omega : o + i < l.length)]
    simp [Nat.add_assoc]

/-! ### what operations yield -/
section
variable {c : Cx} {S : Slots} {L L' : List (Nat × Blk)} {ty : TypeId}

theorem V_move {x : Operand} {v : Value} (h : ev S x = some v) : Val c S L (.move x) ty v := fun a w st => by
  have := st.sl.ev h; simp [ex, execOp, this]
theorem V_assign {x : Operand} {v : Value} (h : ev S x = some v) : Val c S L (.assign x) ty v := fun a w st => by
  have := st.sl.ev h; simp [ex, execOp, this]
theorem V_pick_t {t x y : Operand} {b : Bool} {v : Value} (ht : ev S t = some (.bool b)) (hb : b = true) (h : ev S x = some v) : Val c S L (.pick t x y) ty v := fun a w st => by
  have h1 := st.sl.ev ht; have h2 := st.sl.ev h; subst hb; simp [ex, execOp, h1, h2, asBool]
theorem V_pick_f {t x y : Operand} {b : Bool} {v : Value} (ht : ev S t = some (.bool b)) (hb : b = false) (h : ev S y = some v) : Val c S L (.pick t x y) ty v := fun a w st => by
  have h1 := st.sl.ev ht; have h2 := st.sl.ev h; subst hb; simp [ex, execOp, h1, h2, asBool]
theorem V_nil {x : Operand} {p : Addr} (h : ev S x = some (.pointer (some p))) : Val c S L (.nilCheck x) ty (.pointer (some p)) := fun a w st => by
  have := st.sl.ev h; simp [ex, execOp, this]
theorem V_extract {x : Operand} {vs : Array Value} {i : Nat} {v : Value} (h : ev S x = some (.tuple vs)) (hi : vs[i]? = some v) : Val c S L (.extract x i) ty v := fun a w st => by
  have := st.sl.ev h; simp [ex, execOp, this, Instr.extract, hi]

section
variable {T T' : TypeId} {x y : Operand} {k : IntKind} {p q : Int}
theorem V_bin {op : BinOp} {v : Value} (hx : ev S x = some (.int k p)) (hy : ev S y = some (.int k q)) (h : ∀ w, (binOp op T (.int k p) (.int k q)).run c.P w = .ok v w) : Val c S L (.binOp op T x y T') ty v := fun a w st => by
  have h1 := st.sl.ev hx; have h2 := st.sl.ev hy
  have hg : ∀ w, (eqGuard op T x y (.int k p) (.int k q)).run c.P w = .ok () w := fun w => by
    unfold eqGuard
    cases op <;> simp [pure]
  simp [ex, execOp, h1, h2, hg, h]
theorem V_add (hx : ev S x = some (.int k p)) (hy : ev S y = some (.int k q)) : Val c S L (.binOp .add T x y T') ty (.int k (k.wrap (p + q))) := V_bin hx hy fun w => by simp [binOp, Op.intArith]
theorem V_sub (hx : ev S x = some (.int k p)) (hy : ev S y = some (.int k q)) : Val c S L (.binOp .sub T x y T') ty (.int k (k.wrap (p - q))) := V_bin hx hy fun w => by simp [binOp, Op.intArith]
theorem V_mul (hx : ev S x = some (.int k p)) (hy : ev S y = some (.int k q)) : Val c S L (.binOp .mul T x y T') ty (.int k (k.wrap (p * q))) := V_bin hx hy fun w => by simp [binOp, Op.intArith]
theorem V_addN (hx : ev S x = some (.int .i64 p)) (hy : ev S y = some (.int .i64 q)) (h : -9223372036854775808 ≤ p + q ∧ p + q ≤ 9223372036854775807) : Val c S L (.binOp .add T x y T') ty (.int .i64 (p + q)) := by
  have := V_add (c := c) (L := L) (T := T) (T' := T') (ty := ty) hx hy
  rwa [show IntKind.i64.wrap (p + q) = p + q from IntWalk.i64_in _ h] at this
theorem V_subN (hx : ev S x = some (.int .i64 p)) (hy : ev S y = some (.int .i64 q)) (h : -9223372036854775808 ≤ p - q ∧ p - q ≤ 9223372036854775807) : Val c S L (.binOp .sub T x y T') ty (.int .i64 (p - q)) := by
  have := V_sub (c := c) (L := L) (T := T) (T' := T') (ty := ty) hx hy
  rwa [show IntKind.i64.wrap (p - q) = p - q from IntWalk.i64_in _ h] at this
theorem V_mulN (hx : ev S x = some (.int .i64 p)) (hy : ev S y = some (.int .i64 q)) (h : -9223372036854775808 ≤ p * q ∧ p * q ≤ 9223372036854775807) : Val c S L (.binOp .mul T x y T') ty (.int .i64 (p * q)) := by
  have := V_mul (c := c) (L := L) (T := T) (T' := T') (ty := ty) hx hy
  rwa [show IntKind.i64.wrap (p * q) = p * q from IntWalk.i64_in _ h] at this
theorem V_lss (hx : ev S x = some (.int k p)) (hy : ev S y = some (.int k q)) : Val c S L (.binOp .lss T x y T') ty (.bool (decide (p < q))) := V_bin hx hy fun w => by simp [binOp, Op.intCmp]
theorem V_leq (hx : ev S x = some (.int k p)) (hy : ev S y = some (.int k q)) : Val c S L (.binOp .leq T x y T') ty (.bool (decide (p ≤ q))) := V_bin hx hy fun w => by simp [binOp, Op.intCmp]
theorem V_gtr (hx : ev S x = some (.int k p)) (hy : ev S y = some (.int k q)) : Val c S L (.binOp .gtr T x y T') ty (.bool (decide (p > q))) := V_bin hx hy fun w => by simp [binOp, Op.intCmp]
theorem V_geq (hx : ev S x = some (.int k p)) (hy : ev S y = some (.int k q)) : Val c S L (.binOp .geq T x y T') ty (.bool (decide (p ≥ q))) := V_bin hx hy fun w => by simp [binOp, Op.intCmp]
theorem V_eql (hx : ev S x = some (.int k p)) (hy : ev S y = some (.int k q)) : Val c S L (.binOp .eql T x y T') ty (.bool (decide (p = q))) := V_bin hx hy fun w => by
  rw [show decide (p = q) = (p == q) from by rw [Bool.eq_iff_iff]; simp]; simp only [binOp]; simp [Op.intCmp]
theorem V_neq (hx : ev S x = some (.int k p)) (hy : ev S y = some (.int k q)) : Val c S L (.binOp .neq T x y T') ty (.bool (decide (p ≠ q))) := V_bin hx hy fun w => by
  rw [show decide (p ≠ q) = (p != q) from by rw [Bool.eq_iff_iff]; simp]; simp only [binOp]; simp [Op.intCmp]
theorem V_quo (hx : ev S x = some (.int k p)) (hy : ev S y = some (.int k q)) (h0 : q ≠ 0) : Val c S L (.binOp .quo T x y T') ty (.int k (k.wrap (p.tdiv q))) := V_bin hx hy fun w => by simp [binOp, Op.intDiv, h0]
theorem V_quoN (hx : ev S x = some (.int .i64 p)) (hy : ev S y = some (.int .i64 q)) (h0 : 0 ≤ p) (h1 : 1 ≤ q) (h2 : p ≤ 9223372036854775807) : Val c S L (.binOp .quo T x y T') ty (.int .i64 (p / q)) := by
  have := V_quo (c := c) (L := L) (T := T) (T' := T') (ty := ty) hx hy (by omega)
  rw [Int.tdiv_eq_ediv_of_nonneg h0] at this
  have b : 0 ≤ p / q := Int.ediv_nonneg h0 (by omega)
  have b2 : p / q ≤ p := Int.ediv_le_self _ h0
  rwa [show IntKind.i64.wrap (p / q) = p / q from IntWalk.i64_in _ ⟨by omega, by omega⟩] at this
theorem V_rem (hx : ev S x = some (.int k p)) (hy : ev S y = some (.int k q)) (h0 : q ≠ 0) : Val c S L (.binOp .rem T x y T') ty (.int k (p.tmod q)) := V_bin hx hy fun w => by simp [binOp, Op.intDiv, h0]
theorem V_remN (hx : ev S x = some (.int k p)) (hy : ev S y = some (.int k q)) (h0 : 0 ≤ p) (h1 : 1 ≤ q) : Val c S L (.binOp .rem T x y T') ty (.int k (p % q)) := by
  have := V_rem (c := c) (L := L) (T := T) (T' := T') (ty := ty) hx hy (by omega)
  rwa [Int.tmod_eq_emod_of_nonneg h0] at this
theorem V_conv {k' : IntKind} (hx : ev S x = some (.int k p)) (ht : inB' c.P T' k' = true) (hs : (c.P.underlying T).isSome = true) : Val c S L (.convert T T' x) ty (.int k' (k'.wrap p)) := fun a w st => by
  have h1 := st.sl.ev hx
  unfold inB' at ht
  split at ht <;> try (cases ht; done)
  rename_i k2 hu
  simp only [beq_iff_eq] at ht
  subst ht
  obtain ⟨d, hd⟩ := Option.isSome_iff_exists.1 hs
  simp [ex, execOp, h1, convert, run_underlying hd, run_underlying hu, Conv.intToInt]
end

theorem V_not {x : Operand} {b : Bool} {T : TypeId} (hx : ev S x = some (.bool b)) : Val c S L (.unOp .not T x) ty (.bool (!b)) := fun a w st => by
  have h1 := st.sl.ev hx; simp [ex, execOp, h1, Op.unary]

theorem V_binG {x y : Operand} {T T' : TypeId} {op : BinOp} {p q v : Value} (hx : ev S x = some p) (hy : ev S y = some q) (hg : ∀ w, (eqGuard op T x y p q).run c.P w = .ok () w) (h : ∀ w, (binOp op T p q).run c.P w = .ok v w) :
    Val c S L (.binOp op T x y T') ty v := fun a w st => by
  have h1 := st.sl.ev hx; have h2 := st.sl.ev hy
  simp only [ex, execOp, h1, h2]
  simp [hg, h]

theorem eqIn_bool {P : Program} {w : World} {T : TypeId} (ht : boB P T = true) (d : Nat) (p q : Bool) : (Op.equalIn (d + 1) T (.bool p) (.bool q)).run P w = .ok (p == q) w := by
  unfold boB at ht
  split at ht <;> try (cases ht; done)
  rename_i hu
  simp [Op.equalIn, run_underlying hu]
theorem eqIn_ptr {P : Program} {w : World} {T : TypeId} (ht : ptB P T = true) (d : Nat) (p : Option Addr) : (Op.equalIn (d + 1) T (.pointer p) (.pointer none)).run P w = .ok p.isNone w := by
  unfold ptB at ht
  split at ht <;> try (cases ht; done)
  rename_i hu
  cases p <;> simp [Op.equalIn, run_underlying hu]
theorem run_equal {P : Program} {w w' : World} {T : TypeId} {x y : Value} {b : Bool} (h : ∀ d, (Op.equalIn (d + 1) T x y).run P w = .ok b w') : (Op.equal T x y).run P w = .ok b w' := h 9999

theorem V_eqlB {x y : Operand} {T T' : TypeId} {p q : Bool} (ht : boB c.P T = true) (hx : ev S x = some (.bool p)) (hy : ev S y = some (.bool q)) : Val c S L (.binOp .eql T x y T') ty (.bool (p == q)) :=
  V_binG hx hy (fun w => rfl) fun w => by simp only [binOp]; simp [run_equal fun d => eqIn_bool ht d p q]
theorem V_eqlP {x y : Operand} {T T' : TypeId} {p : Option Addr} (ht : ptB c.P T = true) (hx : ev S x = some (.pointer p)) (hy : ev S y = some (.pointer none)) : Val c S L (.binOp .eql T x y T') ty (.bool p.isNone) :=
  V_binG hx hy (fun w => rfl) fun w => by simp only [binOp]; simp [run_equal fun d => eqIn_ptr ht d p]
theorem V_neqP {x y : Operand} {T T' : TypeId} {p : Option Addr} (ht : ptB c.P T = true) (hx : ev S x = some (.pointer p)) (hy : ev S y = some (.pointer none)) : Val c S L (.binOp .neq T x y T') ty (.bool (!p.isNone)) :=
  V_binG hx hy (fun w => rfl) fun w => by simp only [binOp]; simp [run_equal fun d => eqIn_ptr ht d p]

/-! ### addresses -/
theorem add_none (b o n : Nat) : (⟨b, o, none⟩ : Addr).add n = ⟨b, o + n, none⟩ := by
  unfold Addr.add; split <;> simp_all

theorem V_fieldAddr {x : Operand} {T : TypeId} {f b o : Nat} (k n : Nat) (hf : fldB c.P T f k n = true) (hx : ev S x = some (.pointer (some ⟨b, o, none⟩))) : Val c S L (.fieldAddr T x f) ty (.pointer (some ⟨b, o + k, none⟩)) := fun a w st => by
  have h1 := st.sl.ev hx
  unfold fldB at hf
  split at hf <;> try (cases hf; done)
  rename_i fs hu
  split at hf <;> try (cases hf; done)
  rename_i fx hfx
  simp only [Bool.and_eq_true, beq_iff_eq, bne_iff_ne] at hf
  obtain ⟨⟨rfl, hs⟩, hn⟩ := hf
  simp [ex, execOp, h1, Instr.fieldAt, run_underlying hu, hfx, Instr.sureAddr, fieldPlace, run_sizeOf_sz hs, hn, add_none]

theorem V_indexAddrA {x i : Operand} {T : TypeId} {b o : Nat} (n s : Nat) {k : IntKind} {j : Int} (ht : arB c.P T n s = true) (hx : ev S x = some (.pointer (some ⟨b, o, none⟩))) (hi : ev S i = some (.int k j)) (h0 : 0 ≤ j) (h1 : j < n) :
    Val c S L (.indexAddr T x i) ty (.pointer (some ⟨b, o + j.toNat * s, none⟩)) := fun a w st => by
  have e1 := st.sl.ev hx; have e2 := st.sl.ev hi
  unfold arB at ht
  split at ht <;> try (cases ht; done)
  rename_i m e' hu
  simp only [Bool.and_eq_true, beq_iff_eq] at ht
  obtain ⟨rfl, hs⟩ := ht
  simp [ex, execOp, e1, e2, Instr.indexAt, asIntOf, run_underlying hu, Instr.sureAddr, h0, h1, run_sizeOf_sz hs, add_none]

theorem V_indexAddrS {x i : Operand} {T : TypeId} {b o len cap : Nat} (s : Nat) {k : IntKind} {j : Int} (ht : slB c.P T s = true) (hx : ev S x = some (.slice (some ⟨b, o, none⟩) len cap)) (hi : ev S i = some (.int k j)) (h0 : 0 ≤ j) (h1 : j < len) :
    Val c S L (.indexAddr T x i) ty (.pointer (some ⟨b, o + j.toNat * s, none⟩)) := fun a w st => by
  have e1 := st.sl.ev hx; have e2 := st.sl.ev hi
  unfold slB at ht
  split at ht <;> try (cases ht; done)
  rename_i e' hu
  simp [ex, execOp, e1, e2, Instr.indexAt, asIntOf, run_underlying hu, h0, h1, run_sizeOf_sz ht, add_none]

/-! ### loads and stores -/
theorem V_load1 {x : Operand} {T : TypeId} {b o : Nat} {cs : List Seg} {v : Value} (ht : scB c.P T = true) (hx : ev S x = some (.pointer (some ⟨b, o, none⟩))) (hA : At c L b cs) (hv : (flat cs)[o]? = some v) : Val c S L (.load T x) ty v := fun a w st => by
  have e1 := st.sl.ev hx
  obtain ⟨_, t, fz, hb⟩ := hA.here st
  have hc : w.cell? ⟨b, o, none⟩ = some v := (cell_of_heap hb o).trans hv
  simp [ex, execOp, e1, Instr.loadAt, Instr.sureAddr, loadVar, run_isAgg_sc ht, load, Sem.run, hc]

/-- The same, by the content's own look-up. -/
theorem V_load {x : Operand} {T : TypeId} {b o : Nat} {cs : List Seg} {v : Value} (ht : scB c.P T = true) (hx : ev S x = some (.pointer (some ⟨b, o, none⟩))) (hA : At c L b cs) (hv : cell1 cs o = some v) : Val c S L (.load T x) ty v := fun a w st =>
  V_load1 ht hx hA (cell1_flat (hA.here st).1 hv) a w st

theorem V_loadA {x : Operand} {T : TypeId} {b o : Nat} {cs ds : List Seg} (n : Nat) (ht : agB c.P T n = true) (hx : ev S x = some (.pointer (some ⟨b, o, none⟩))) (hA : At c L b cs) (hv : subS cs o n = some ds) : Val c S L (.load T x) ty (AG ds) := fun a w st => by
  have e1 := st.sl.ev hx
  obtain ⟨hf, t, fz, hb⟩ := hA.here st
  obtain ⟨e, _, hl⟩ := subS_flat hf hv
  have hL := run_loadCells (P := c.P) hb o n 0 #[] (by omega)
  simp [ex, execOp, e1, Instr.loadAt, Instr.sureAddr, loadVar, run_isAgg_ag ht, run_sizeOf_sz (sz_of_ag ht), loadCells, hL, AG, e]

theorem setCell_heap (w : World) (b o : Nat) (v : Value) (k : Nat) : (w.setCell ⟨b, o, none⟩ v).heap[k]? = (w.heap[k]?).map fun x => if k = b then (match x with
      | .cells c elem fz => .cells (c.setIfInBounds o v) elem fz
      | y => y) else x := by
  simp only [World.setCell, Array.getElem?_modify]
  by_cases h : b = k
  · subst h
    simp only [if_true]
    cases w.heap[b]? with
    | none => rfl
    | some x => cases x <;> rfl
  · rw [if_neg h]
    cases w.heap[k]? with
    | none => rfl
    | some x => simp [Ne.symm h]

theorem run_storeCells {P : Program} {b : Nat} {t : TypeId} (o : Nat) : ∀ (vs : List Value) (i : Nat) (l : List Value) (w : World), w.heap[b]? = some (.cells l.toArray t (0, 0)) → (∀ v ∈ vs, one v = true) → o + i + vs.length ≤ l.length →
    ∃ w', (storeCells ⟨b, o, none⟩ vs i).run P w = .ok () w' ∧ w'.os = w.os ∧ w'.tape = w.tape ∧ w'.output = w.output ∧ w'.heap.size = w.heap.size ∧ (∀ k, k ≠ b → w'.heap[k]? = w.heap[k]?) ∧
      w'.heap[b]? = some (.cells (l.take (o + i) ++ vs ++ l.drop (o + i + vs.length)).toArray t (0, 0))
  | [], i, l, w, hb, _, _ => by
    refine ⟨w, by simp [storeCells], rfl, rfl, rfl, rfl, fun _ _ => rfl, ?_⟩
    rw [hb]; simp
  | v :: vs, i, l, w, hb, h1, hle => by
    have hlt : o + i < l.length := by simp at hle; omega
    have hc : w.cell? ⟨b, o + i, none⟩ = some (l[o + i]) := by rw [cell_of_heap hb]; exact List.getElem?_eq_getElem hlt
    have hz : w.frozen? ⟨b, o + i, none⟩ = false := by simp [World.frozen?, hb]
    have hone := h1 v List.mem_cons_self
    have hst : (store ((⟨b, o, none⟩ : Addr).add i) v).run P w = .ok () (w.setCell ⟨b, o + i, none⟩ v) := by
      rw [add_none]
      unfold store
      cases v <;> first | (cases hone; done) | (simp only [Sem.run, hc, hz]; rfl)
    have hb' : (w.setCell ⟨b, o + i, none⟩ v).heap[b]? = some (.cells (l.set (o + i) v).toArray t (0, 0)) := by
      rw [setCell_heap, hb]; simp
    obtain ⟨w', e, p1, p2, p3, p4, p5, p6⟩ := run_storeCells o vs (i + 1) (l.set (o + i) v) (w.setCell ⟨b, o + i, none⟩ v) hb' (fun u hu => h1 u (List.mem_cons_of_mem _ hu)) (by simp at hle ⊢; omega)
    refine ⟨w', ?_, p1.trans rfl, p2.trans rfl, p3.trans rfl, ?_, fun k hk => ?_, ?_⟩
    · simp only [storeCells, Sem.run_bind, hst, Result.andThen_ok]; exact e
    · exact p4.trans Array.size_modify
    · rw [p5 k hk, setCell_heap]
      simp only [hk, if_false]
      cases w.heap[k]? <;> rfl
    · rw [p6]
      have e1 : (l.set (o + i) v).take (o + (i + 1)) = l.take (o + i) ++ [v] := by
        rw [List.take_set, ← Nat.add_assoc, List.take_succ_eq_append_getElem hlt, List.set_append, if_neg (by simp [Nat.min_eq_left (Nat.le_of_lt hlt)])]
        simp [Nat.min_eq_left (Nat.le_of_lt hlt)]
      have e2 : (l.set (o + i) v).drop (o + (i + 1) + vs.length) = l.drop (o + i + (v :: vs).length) := by
        rw [List.drop_set, if_pos (by omega), List.length_cons]
        congr 1; omega
      rw [e1, e2]; simp

theorem E_store {x y : Operand} {T : TypeId} {b o : Nat} {cs cs' : List Seg} {t : TypeId} {v : Value} (ht : szB c.P T 1 = true) (hx : ev S x = some (.pointer (some ⟨b, o, none⟩))) (hy : ev S y = some v) (h1 : one v = true)
    (hu : Upd b (.cells cs' t) L (.cells cs t) L') (hs : set1 cs o v = some cs') : Eff c S L (.store T x y) ty (fun u M => u = undef ∧ M = L') := fun a w st => by
  have e1 := st.sl.ev hx; have e2 := st.sl.ev hy
  obtain ⟨hf, hb⟩ := st.hp.held _ hu.mem
  obtain ⟨f1, f2, f3⟩ := set1_flat hf hs
  obtain ⟨w', e, p1, p2, p3, p4, p5, p6⟩ := run_storeCells (P := c.P) o [v] 0 (flat cs) w hb (by simpa using h1) (by simp; omega)
  refine ⟨undef, w', L', .inr ⟨?_, rfl⟩, st.hp.upd hu p1 p2 p3 p4 p5 ⟨f2, ?_⟩, rfl, rfl⟩
  · have hcells : v.cells = #[v] := by cases v <;> first | rfl | (simp [Go.X.one] at h1; done)
    simp only [ex, execOp, e1, e2, Instr.storeAt, Instr.sureAddr, storeVar, hcells]
    simp [run_sizeOf_sz ht, e]
  · rw [p6, f1]
    congr 2
    rw [List.set_eq_take_append_cons_drop, if_pos f3]
    simp

theorem E_storeA {x y : Operand} {T : TypeId} {b o : Nat} {cs cs' ds : List Seg} {t : TypeId} (n : Nat) (ht : szB c.P T n = true) (hx : ev S x = some (.pointer (some ⟨b, o, none⟩))) (hy : ev S y = some (AG ds)) (hn : (flat ds).length = n) (hd : Fit ds)
    (h1 : ∀ v ∈ flat ds, one v = true) (hu : Upd b (.cells cs' t) L (.cells cs t) L') (hs : putAt cs o n ds = some cs') : Eff c S L (.store T x y) ty (fun u M => u = undef ∧ M = L') := fun a w st => by
  have e1 := st.sl.ev hx; have e2 := st.sl.ev hy
  obtain ⟨hf, hb⟩ := st.hp.held _ hu.mem
  obtain ⟨f1, f2, f3⟩ := putAt_flat hf hd hs
  obtain ⟨w', e, p1, p2, p3, p4, p5, p6⟩ := run_storeCells (P := c.P) o (flat ds) 0 (flat cs) w hb h1 (by omega)
  refine ⟨undef, w', L', .inr ⟨?_, rfl⟩, st.hp.upd hu p1 p2 p3 p4 p5 ⟨f2, ?_⟩, rfl, rfl⟩
  · simp only [ex, execOp, e1, e2, Instr.storeAt, Instr.sureAddr, storeVar, AG, Value.cells]
    simp [run_sizeOf_sz ht, e, hn]
  · rw [p6, f1, hn]
    simp

end
end Go.X

/- Functions: how one is entered, called, and left; new blocks; aggregates that are built. -/
namespace Go.X
open Go.RowKit

/-! ### worlds, one behind another -/
/-- The blocks bs are taken out of L. -/
inductive Dels : List Nat → List (Nat × Blk) → List (Nat × Blk) → Prop where
  | nil (L : List (Nat × Blk)) : Dels [] L L
  | cons {b : Nat} {k : Blk} {bs : List Nat} {A B L' : List (Nat × Blk)} (h : Dels bs (A ++ B) L') : Dels (b :: bs) (A ++ (b, k) :: B) L'

theorem Dels.perm {bs : List Nat} {L L' : List (Nat × Blk)} (h : Dels bs L L') : ∃ M : List (Nat × Blk), M.map (·.1) = bs ∧ L.Perm (M ++ L') := by
  induction h with
  | nil L => exact ⟨[], rfl, .refl _⟩
  | @cons b k bs A B L' h ih =>
    obtain ⟨M, hM, hp⟩ := ih
    refine ⟨(b, k) :: M, by simp [hM], ?_⟩
    exact (List.perm_middle).trans (List.Perm.cons _ hp)

theorem HP.trans {w0 w w' : World} {O bs : List Nat} {L Lr M : List (Nat × Blk)} (h : HP w0 w O L) (hd : Dels bs L Lr) (h' : HP w w' bs M) : HP w0 w' O (M ++ Lr) := by
  obtain ⟨D, hD, hp⟩ := hd.perm
  have hbs : ∀ b ∈ bs, b ∈ O ∨ w0.heap.size ≤ b := fun b hb => by
    rw [← hD] at hb
    obtain ⟨p, hpD, he⟩ := List.mem_map.1 hb
    have := h.own p (hp.symm.subset (List.mem_append_left _ hpD))
    rw [he] at this; exact this
  have hnd : ((D ++ Lr).map (·.1)).Nodup := (hp.map _).nodup_iff.1 h.nodup
  rw [List.map_append, hD, List.nodup_append] at hnd
  have hsub : ∀ p ∈ Lr, p ∈ L := fun p hpL => hp.symm.subset (List.mem_append_right _ hpL)
  have hlt : ∀ p ∈ Lr, p.1 < w.heap.size := fun p hpL => h.lt (hsub p hpL)
  have hnb : ∀ p ∈ Lr, p.1 ∉ bs := fun p hpL hm => hnd.2.2 _ hm _ (List.mem_map.2 ⟨p, hpL, rfl⟩) rfl
  refine ⟨h'.os.trans h.os, h'.tape.trans h.tape, h'.output.trans h.output, Nat.le_trans h.size h'.size, ?_, ?_, ?_, ?_⟩
  · intro b hb hO
    rw [h'.keep b (Nat.lt_of_lt_of_le hb h.size) (fun hm => by
      rcases hbs b hm with h1 | h1
      · exact hO h1
      · omega)]
    exact h.keep b hb hO
  · intro p hpm
    rcases List.mem_append.1 hpm with h1 | h1
    · exact h'.held p h1
    · rw [h'.keep p.1 (hlt p h1) (hnb p h1)]
      exact h.held p (hsub p h1)
  · intro p hpm
    rcases List.mem_append.1 hpm with h1 | h1
    · rcases h'.own p h1 with h2 | h2
      · exact hbs _ h2
      · exact .inr (Nat.le_trans h.size h2)
    · exact h.own p (hsub p h1)
  · rw [List.map_append, List.nodup_append]
    refine ⟨h'.nodup, hnd.2.1, fun a ha b hb e => ?_⟩
    subst e
    obtain ⟨p, hpM, rfl⟩ := List.mem_map.1 ha
    obtain ⟨q, hqL, he⟩ := List.mem_map.1 hb
    rcases h'.own p hpM with h2 | h2
    · exact hnb q hqL (he ▸ h2)
    · have := hlt q hqL
      omega

theorem HP.trans0 {w0 w w' : World} {O : List Nat} {L M : List (Nat × Blk)} (h : HP w0 w O L) (h' : HP w w' [] M) : HP w0 w' O (M ++ L) := h.trans (.nil L) h'

/-- What is in L may be forgotten. -/
theorem HP.forget {w0 w : World} {O : List Nat} {L : List (Nat × Blk)} (h : HP w0 w O L) : HP w0 w O [] := h.sub (List.nil_sublist _)

theorem HP.below {w0 w : World} {L : List (Nat × Blk)} (h : HP w0 w [] L) : Below w0.heap.size w0 w :=
  ⟨h.os, h.tape, h.output, h.size, fun k hk => h.keep k hk (by simp)⟩

/-- Old blocks that are tracked. -/
theorem HP.start {w : World} {O : List Nat} {L : List (Nat × Blk)} (hh : ∀ p ∈ L, p.2.Is w.heap[p.1]?) (ho : ∀ p ∈ L, p.1 ∈ O) (hn : (L.map (·.1)).Nodup) : HP w w O L :=
  ⟨rfl, rfl, rfl, Nat.le_refl _, fun _ _ _ => rfl, hh, fun p hp => .inl (ho p hp), hn⟩

/-! ### entering -/
def slotsFrom : Nat → List Value → Slots
  | _, [] => []
  | i, v :: r => (i, v) :: slotsFrom (i + 1) r

theorem slotsFrom_get : ∀ (vs : List Value) (i t : Nat) (v : Value), slot (slotsFrom i vs) t = some v → i ≤ t ∧ vs[t - i]? = some v
  | [], i, t, v, h => by simp [slotsFrom, slot] at h
  | u :: r, i, t, v, h => by
    simp only [slotsFrom, slot, List.lookup_cons] at h
    by_cases e : t = i
    · subst e; simp at h; subst h; simp
    · have : (t == i) = false := by simpa using e
      rw [this] at h
      obtain ⟨h1, h2⟩ := slotsFrom_get r (i + 1) t v h
      refine ⟨by omega, ?_⟩
      rw [show t - i = (t - (i + 1)) + 1 by omega, List.getElem?_cons_succ]
      exact h2

theorem calls_of_W {P : Program} {f : FuncId} {fn : Func} {x : Code} {args : List Value} {w : World} {R : Ending → World → Prop} {n : Nat} {O : List Nat} {S : Slots} {L : List (Nat × Blk)}
    (hf : P.funcs[f]? = some fn) (hb : fn.body = some x) (hn : fn.ntmps = n) (hle : Nat.ble args.length n = true) (hS : slotsFrom 0 args = S) (hL : HP w w O L)
    (h : W ⟨P, n, w, O⟩ x (bodyPost P fn R) S L) : Calls P f args.toArray w R := by
  refine calls_of_wp hf hb (h _ _ ⟨⟨?_, rfl, fun t v ht => ?_⟩, hL⟩)
  · have := Nat.le_of_ble_eq_true hle
    simp [hn]; omega
  · rw [← hS] at ht
    obtain ⟨_, h2⟩ := slotsFrom_get args 0 t v ht
    simp only [Nat.sub_zero] at h2
    have hlt : t < args.length := (List.getElem?_eq_some_iff.1 h2).1
    simp only [Array.getElem?_append, List.size_toArray, List.getElem?_toArray, hlt, if_true]
    exact h2

/-! ### leaving -/
/-- A result's variable holds v. -/
def Res (c : Cx) (S : Slots) (L : List (Nat × Blk)) : ResultVar → Value → Prop
  | .tmp t, v => slot S t = some v
  | .cell t ty, v => ∀ a w, St c S L a w → (do loadVar ty (← asAddr (a.tmps.getD t undef))).run c.P w = .ok v w

theorem Res.tmp {c : Cx} {S : Slots} {L : List (Nat × Blk)} {t : Tmp} {v : Value} (h : slot S t = some v) : Res c S L (.tmp t) v := h
theorem Res.cellA {c : Cx} {S : Slots} {L : List (Nat × Blk)} {t : Tmp} {T : TypeId} {b o : Nat} {cs ds : List Seg} (n : Nat) (ht : agB c.P T n = true) (hx : slot S t = some (.pointer (some ⟨b, o, none⟩))) (hA : At c L b cs) (hv : subS cs o n = some ds) : Res c S L (.cell t T) (AG ds) := fun a w st => by
  have e1 : a.tmps.getD t undef = .pointer (some ⟨b, o, none⟩) := by simp [Array.getD_eq_getD_getElem?, st.sl.get t _ hx]
  obtain ⟨hf, t', fz, hb⟩ := hA.here st
  obtain ⟨e, _, hl⟩ := subS_flat hf hv
  have hL := run_loadCells (P := c.P) hb o n 0 #[] (by omega)
  simp [e1, asAddr, loadVar, run_isAgg_ag ht, run_sizeOf_sz (sz_of_ag ht), loadCells, hL, AG, e]
theorem Res.cell {c : Cx} {S : Slots} {L : List (Nat × Blk)} {t : Tmp} {T : TypeId} {b o : Nat} {cs : List Seg} {v : Value} (ht : scB c.P T = true) (hx : slot S t = some (.pointer (some ⟨b, o, none⟩))) (hA : At c L b cs) (hv : cell1 cs o = some v) : Res c S L (.cell t T) v := fun a w st => by
  have e1 : a.tmps.getD t undef = .pointer (some ⟨b, o, none⟩) := by simp [Array.getD_eq_getD_getElem?, st.sl.get t _ hx]
  obtain ⟨hf, t', fz, hb⟩ := hA.here st
  have hc : w.cell? ⟨b, o, none⟩ = some v := (cell_of_heap hb o).trans (cell1_flat hf hv)
  simp [e1, asAddr, loadVar, run_isAgg_sc ht, load, Sem.run, hc]

def resAct (tmps : Array Value) : ResultVar → Sem Value
  | .tmp t => pure (tmps.getD t undef)
  | .cell a t => do loadVar t (← asAddr (tmps.getD a undef))

theorem results_eq (fn : Func) (tmps : Array Value) : results fn tmps = (do
    let vs ← fn.results.mapM (resAct tmps)
    pure (if h : vs.size = 1 then vs[0] else .tuple vs)) := by
  unfold results
  congr 1

theorem run_results1 {P : Program} {w : World} {fn : Func} {tmps : Array Value} {r : ResultVar} (hr : fn.results = #[r]) : (results fn tmps).run P w = (resAct tmps r).run P w := by
  rw [results_eq, hr]; simp
theorem run_results2 {P : Program} {w : World} {fn : Func} {tmps : Array Value} {r1 r2 : ResultVar} (hr : fn.results = #[r1, r2]) : (results fn tmps).run P w = ((resAct tmps r1).run P w).andThen fun v w => ((resAct tmps r2).run P w).andThen fun u w => .ok (.tuple #[v, u]) w := by
  rw [results_eq, hr]; simp
theorem run_results3 {P : Program} {w : World} {fn : Func} {tmps : Array Value} {r1 r2 r3 : ResultVar} (hr : fn.results = #[r1, r2, r3]) : (results fn tmps).run P w = ((resAct tmps r1).run P w).andThen fun v w => ((resAct tmps r2).run P w).andThen fun u w => ((resAct tmps r3).run P w).andThen fun t w => .ok (.tuple #[v, u, t]) w := by
  rw [results_eq, hr]; simp

theorem Res.run {c : Cx} {S : Slots} {L : List (Nat × Blk)} {r : ResultVar} {v : Value} (h : Res c S L r v) {a : Act} {w : World} (st : St c S L a w) :
    (resAct a.tmps r).run c.P w = .ok v w := by
  cases r with
  | tmp t => simp [resAct, Array.getD_eq_getD_getElem?, st.sl.get t _ h]
  | cell t ty => exact h a w st

section
variable {c : Cx} {fn : Func} {R : Ending → World → Prop} {S : Slots} {L : List (Nat × Blk)}

theorem done_ret {e : Exit} (he : e = .ret ∨ e = .normal) {v : Value} (hv : ∀ a w, St c S L a w → (results fn a.tmps).run c.P w = .ok v w) (h : ∀ w, HP c.w0 w c.O L → R (.returned v) w) : WQ c (bodyPost c.P fn R) e S L := fun a w st => by
  rcases he with rfl | rfl <;> exact ⟨st.sl.defers, v, hv a w st, h w st.hp⟩

theorem WQ.ret0 {e : Exit} (he : e = .ret ∨ e = .normal) (hr : fn.results = #[]) (h : ∀ w, HP c.w0 w c.O L → R (.returned (.tuple #[])) w) : WQ c (bodyPost c.P fn R) e S L :=
  done_ret he (fun a w _ => by simp [results, hr]) h
theorem WQ.ret1 {r : ResultVar} {v : Value} (hr : fn.results = #[r]) (h1 : Res c S L r v) (h : ∀ w, HP c.w0 w c.O L → R (.returned v) w) : WQ c (bodyPost c.P fn R) .ret S L :=
  done_ret (.inl rfl) (fun a w st => by
    have := h1.run st
    rw [run_results1 hr, this]) h
theorem WQ.ret2 {r1 r2 : ResultVar} {v1 v2 : Value} (hr : fn.results = #[r1, r2]) (h1 : Res c S L r1 v1) (h2 : Res c S L r2 v2) (h : ∀ w, HP c.w0 w c.O L → R (.returned (.tuple #[v1, v2])) w) : WQ c (bodyPost c.P fn R) .ret S L :=
  done_ret (.inl rfl) (fun a w st => by
    have e1 := h1.run st
    have e2 := h2.run st
    rw [run_results2 hr, e1, Result.andThen_ok, e2]; rfl) h
theorem WQ.ret3 {r1 r2 r3 : ResultVar} {v1 v2 v3 : Value} (hr : fn.results = #[r1, r2, r3]) (h1 : Res c S L r1 v1) (h2 : Res c S L r2 v2) (h3 : Res c S L r3 v3) (h : ∀ w, HP c.w0 w c.O L → R (.returned (.tuple #[v1, v2, v3])) w) : WQ c (bodyPost c.P fn R) .ret S L :=
  done_ret (.inl rfl) (fun a w st => by
    have e1 := h1.run st
    have e2 := h2.run st
    have e3 := h3.run st
    rw [run_results3 hr, e1, Result.andThen_ok, e2, Result.andThen_ok, e3]; rfl) h
end

/-! ### calling -/
def fnB (P : Program) (f : FuncId) : Bool := match P.funcs[f]? with
  | some fn => !(fn.name == "runtime.NumGoroutine") && fn.body.isSome
  | none => false

def evs (S : Slots) : List Operand → Option (List Value)
  | [] => some []
  | x :: r => match ev S x, evs S r with
    | some v, some vs => some (v :: vs)
    | _, _ => none

theorem evs_eq {n : Nat} {a : Act} {S : Slots} (h : Sl n a S) : ∀ {xs : List Operand} {vs : List Value}, evs S xs = some vs → xs.map a.eval = vs
  | [], vs, e => by simp [evs] at e; simp [e]
  | x :: r, vs, e => by
    unfold evs at e
    split at e
    · rename_i v us hv hus
      cases e
      simp [h.ev hv, evs_eq h hus]
    · cases e

theorem run_callFunc {P : Program} {f : FuncId} {args : Array Value} {w : World} (h : fnB P f = true) : (callFunc f args).run P w = .ok (.enter f args) w := by
  unfold fnB at h
  split at h
  · rename_i fn hf
    simp only [Bool.and_eq_true, Bool.not_eq_true'] at h
    obtain ⟨h1, h2⟩ := h
    obtain ⟨b, hb⟩ := Option.isSome_iff_exists.1 h2
    have h1' : ¬ fn.name = "runtime.NumGoroutine" := by simpa using h1
    simp [callFunc, hf, h1', hb]
  · cases h

section
variable {c : Cx} {Q : Post} {S : Slots} {L L' Lr : List (Nat × Blk)} {ops : Array Oper} {d : Option Tmp} {ty : TypeId} {pos : String} {af : Array Edge} {rest : List Oper}

theorem C_fn {f : FuncId} {xs : Array Operand} {ats : Array TypeId} {vs : List Value} {R : Value → List (Nat × Blk) → Prop} (hf : fnB c.P f = true) (ha : evs S xs.toList = some vs)
    (hc : ∀ w, HP c.w0 w c.O L → Calls c.P f vs.toArray w fun e w' => ∃ v L', e = .returned v ∧ HP c.w0 w' c.O L' ∧ R v L') : Cal c S L (.call ⟨.value (.func f), xs, ats⟩) ty R := fun a w st => by
  refine ⟨f, vs.toArray, ?_, hc w st.hp⟩
  have := evs_eq st.sl ha
  have e : xs.map a.eval = vs.toArray := by
    rw [← this, ← Array.toList_inj]; simp
  simp [ex, execOp, resolve, e, Act.eval, Deferred.ofValue, invoke, run_callFunc hf]

theorem C_call {ι : Type} {f : FuncId} {xs : Array Operand} {ats : Array TypeId} {vs : List Value} (bs : List Nat) (V : ι → Value) (M : ι → List (Nat × Blk)) (A : ι → Prop) (hf : fnB c.P f = true) (ha : evs S xs.toList = some vs)
    (hdel : Dels bs L Lr) (hc : ∀ w, HP c.w0 w c.O L → Calls c.P f vs.toArray w fun e w' => ∃ r, A r ∧ e = .returned (V r) ∧ HP w w' bs (M r)) : Cal c S L (.call ⟨.value (.func f), xs, ats⟩) ty fun v L' => ∃ r, A r ∧ v = V r ∧ L' = M r ++ Lr :=
  C_fn hf ha fun w hp => (hc w hp).mono fun _ _ ⟨r, hr, he, hp'⟩ => ⟨V r, M r ++ Lr, he, hp.trans hdel hp', r, hr, rfl, rfl⟩
theorem C_pure {f : FuncId} {xs : Array Operand} {ats : Array TypeId} {vs : List Value} (v : Value) (hf : fnB c.P f = true) (ha : evs S xs.toList = some vs)
    (hc : ∀ w, HP c.w0 w c.O L → Calls c.P f vs.toArray w fun e w' => e = .returned v ∧ HP w w' [] []) : Cal c S L (.call ⟨.value (.func f), xs, ats⟩) ty fun u L' => u = v ∧ L' = L :=
  C_fn hf ha fun w hp => (hc w hp).mono fun _ _ ⟨he, hp'⟩ => ⟨v, L, he, hp.trans0 hp', rfl, rfl⟩

/-- A call of a function that tells what it comes to, for any of the prover's own values. -/
theorem WL.call {ι : Type} {f : FuncId} {xs : Array Operand} {ats : Array TypeId} {vs : List Value} (bs : List Nat) (V : ι → Value) (M : ι → List (Nat × Blk)) (A : ι → Prop) (hd : inB c.n d = true) (hf : fnB c.P f = true) (ha : evs S xs.toList = some vs)
    (hdel : Dels bs L Lr) (hc : ∀ w, HP c.w0 w c.O L → Calls c.P f vs.toArray w fun e w' => ∃ r, A r ∧ e = .returned (V r) ∧ HP w w' bs (M r))
    (k : ∀ r, A r → WL c ops Q rest (putS d (V r) S) (M r ++ Lr)) : WL c ops Q (⟨d, .call ⟨.value (.func f), xs, ats⟩, ty, pos, af, none⟩ :: rest) S L :=
  WL.cal hd (C_call bs V M A hf ha hdel hc) (fun v L' ⟨r, hr, hv, hL⟩ => by subst hv; subst hL; exact k r hr)

/-- One that yields one value, and leaves the rest alone. -/
theorem WL.pure {f : FuncId} {xs : Array Operand} {ats : Array TypeId} {vs : List Value} (v : Value) (hd : inB c.n d = true) (hf : fnB c.P f = true) (ha : evs S xs.toList = some vs)
    (hc : ∀ w, HP c.w0 w c.O L → Calls c.P f vs.toArray w fun e w' => e = .returned v ∧ HP w w' [] [])
    (k : WL c ops Q rest (putS d v S) L) : WL c ops Q (⟨d, .call ⟨.value (.func f), xs, ats⟩, ty, pos, af, none⟩ :: rest) S L :=
  WL.call (ι := Unit) [] (fun _ => v) (fun _ => []) (fun _ => True) hd hf ha (.nil L) (fun w hp => (hc w hp).mono fun _ _ ⟨he, hp'⟩ => ⟨(), trivial, he, hp'⟩) (fun _ _ => k)

/-! ### new blocks -/
def zeroIs (P : Program) (t : TypeId) (zs : List Seg) : Prop := ((P.info? t).bind (·.zero)).map (·.cells) = some (flat zs).toArray ∧ Fit zs

theorem run_zeroValue {P : Program} {t : TypeId} {zs : List Seg} {w : World} (h : zeroIs P t zs) : ∃ z, (zeroValue t).run P w = .ok z w ∧ z.cells = (flat zs).toArray := by
  obtain ⟨h1, _⟩ := h
  obtain ⟨z, hz, hc⟩ := Option.map_eq_some_iff.1 h1
  obtain ⟨i, hi, hz'⟩ := Option.bind_eq_some_iff.1 hz
  exact ⟨z, by simp [zeroValue, run_typeInfo _ hi, hz'], hc⟩

theorem E_new {op : Op} {t : TypeId} {zs : List Seg} (hf : Fit zs) (h : ∀ a w, St c S L a w → (ex a.eval op ty).run c.P w = .ok (.value (.pointer (some ⟨w.heap.size, 0, none⟩))) (w.alloc (.cells (flat zs).toArray t))) :
    Eff c S L op ty fun v L' => ∃ b, v = .pointer (some ⟨b, 0, none⟩) ∧ L' = (b, .cells zs t) :: L := fun a w st =>
  ⟨_, _, _, .inl (h a w st), st.hp.alloc (k := .cells zs t) ⟨hf, rfl⟩, _, rfl, rfl⟩

theorem run_newRow {P : Program} {t : TypeId} {cs : Array Value} {w : World} : (newRow t cs).run P w = .ok ⟨w.heap.size, 0, none⟩ (w.alloc (.cells cs t)) := by
  rfl

theorem E_alloc {t : TypeId} (zs : List Seg) (hz : zeroIs c.P t zs) : Eff c S L (.alloc t) ty fun v L' => ∃ b, v = .pointer (some ⟨b, 0, none⟩) ∧ L' = (b, .cells zs t) :: L :=
  E_new (t := t) hz.2 fun a w _ => by
    obtain ⟨z, h1, h2⟩ := run_zeroValue (w := w) hz
    simp [ex, execOp, Instr.alloc, h1, newVar, run_newRow, h2]
theorem E_box1 {t : TypeId} {x : Operand} {v : Value} (hx : ev S x = some v) (h1 : one v = true) : Eff c S L (.box t x) ty fun u L' => ∃ b, u = .pointer (some ⟨b, 0, none⟩) ∧ L' = (b, .cells [(1, [v])] t) :: L :=
  E_new (t := t) (zs := [(1, [v])]) (Fit.mk rfl Fit.nil) fun a w st => by
    have e1 := st.sl.ev hx
    have hc : v.cells = #[v] := by cases v <;> first | rfl | (cases h1; done)
    simp [ex, execOp, Instr.box, e1, newVar, run_newRow, hc, flat]
theorem E_boxA {t : TypeId} {x : Operand} {ds : List Seg} (hx : ev S x = some (AG ds)) (hf : Fit ds) : Eff c S L (.box t x) ty fun u L' => ∃ b, u = .pointer (some ⟨b, 0, none⟩) ∧ L' = (b, .cells ds t) :: L :=
  E_new (t := t) (zs := ds) hf fun a w st => by
    have e1 := st.sl.ev hx
    simp [ex, execOp, Instr.box, e1, newVar, run_newRow, AG, Value.cells]

theorem WL.new {op : Op} {t : TypeId} {t' : Tmp} {zs : List Seg} (hd : Nat.blt t' c.n = true) (h : Eff c S L op ty fun v L' => ∃ b, v = .pointer (some ⟨b, 0, none⟩) ∧ L' = (b, .cells zs t) :: L)
    (k : ∀ b, WL c ops Q rest ((t', .pointer (some ⟨b, 0, none⟩)) :: S) ((b, .cells zs t) :: L)) : WL c ops Q (⟨some t', op, ty, pos, af, none⟩ :: rest) S L :=
  WL.eff (d := some t') hd h (fun v L' ⟨b, hv, hL⟩ => by subst hv; subst hL; exact k b)

theorem WL.store {T : TypeId} {x y : Operand} {b o : Nat} {cs cs' : List Seg} {t : TypeId} {v : Value} (ht : szB c.P T 1 = true) (hx : ev S x = some (.pointer (some ⟨b, o, none⟩))) (hy : ev S y = some v) (h1 : one v = true)
    (hu : Upd b (.cells cs' t) L (.cells cs t) L') (hs : set1 cs o v = some cs') (k : WL c ops Q rest S L') : WL c ops Q (⟨none, .store T x y, ty, pos, af, none⟩ :: rest) S L :=
  WL.eff (d := none) rfl (E_store ht hx hy h1 hu hs) (fun v M ⟨_, hM⟩ => by subst hM; exact k)
theorem WL.storeA {T : TypeId} {x y : Operand} {b o : Nat} {cs cs' ds : List Seg} {t : TypeId} (n : Nat) (ht : szB c.P T n = true) (hx : ev S x = some (.pointer (some ⟨b, o, none⟩))) (hy : ev S y = some (AG ds)) (hn : (flat ds).length = n) (hd : Fit ds)
    (h1 : ∀ v ∈ flat ds, one v = true) (hu : Upd b (.cells cs' t) L (.cells cs t) L') (hs : putAt cs o n ds = some cs') (k : WL c ops Q rest S L') : WL c ops Q (⟨none, .store T x y, ty, pos, af, none⟩ :: rest) S L :=
  WL.eff (d := none) rfl (E_storeA n ht hx hy hn hd h1 hu hs) (fun v M ⟨_, hM⟩ => by subst hM; exact k)
end

/-! ### aggregates that are built -/
theorem foldl_set_flat (n o : Nat) : ∀ (vs : List Value) (i : Nat) (l : List Value), o + i + vs.length ≤ l.length →
    ((vs.zipIdx i).foldl (fun cs (x, j) => cs.setIfInBounds (o + j) x) l.toArray) = (l.take (o + i) ++ vs ++ l.drop (o + i + vs.length)).toArray
  | [], i, l, _ => by simp
  | v :: vs, i, l, hle => by
    have hlt : o + i < l.length := by simp at hle; omega
    simp only [List.zipIdx_cons, List.foldl_cons]
    rw [List.setIfInBounds_toArray, foldl_set_flat n o vs (i + 1) (l.set (o + i) v) (by simp at hle ⊢; omega)]
    have e1 : (l.set (o + i) v).take (o + (i + 1)) = l.take (o + i) ++ [v] := by
      rw [List.take_set, ← Nat.add_assoc, List.take_succ_eq_append_getElem hlt, List.set_append, if_neg (by simp [Nat.min_eq_left (Nat.le_of_lt hlt)])]
      simp [Nat.min_eq_left (Nat.le_of_lt hlt)]
    have e2 : (l.set (o + i) v).drop (o + (i + 1) + vs.length) = l.drop (o + i + (v :: vs).length) := by
      rw [List.drop_set, if_pos (by omega), List.length_cons]
      congr 1; omega
    rw [e1, e2]; simp

/-- Parts are laid into segments, one behind the other. 'place' tells where: offset and size. -/
inductive Bld (S : Slots) (place : Nat → Nat → Nat → Prop) : List (Nat × Operand) → List Seg → List Seg → Prop where
  | nil (z : List Seg) : Bld S place [] z z
  | one {i k : Nat} {x : Operand} {v : Value} {r : List (Nat × Operand)} {z z1 z2 : List Seg} (hx : ev S x = some v) (h1 : one v = true) (hp : place i k 1) (hs : set1 z k v = some z1) (h : Bld S place r z1 z2) : Bld S place ((i, x) :: r) z z2
  | agg {i k n : Nat} {x : Operand} {ds : List Seg} {r : List (Nat × Operand)} {z z1 z2 : List Seg} (hx : ev S x = some (AG ds)) (hf : Fit ds) (hn : (flat ds).length = n) (hp : place i k n) (hs : putAt z k n ds = some z1) (h : Bld S place r z1 z2) : Bld S place ((i, x) :: r) z z2

theorem Bld.fill {S : Slots} {place : Nat → Nat → Nat → Prop} {p : Nat → Option (Nat × Nat)} (hp : ∀ i k n, place i k n → p i = some (k, n)) {a : Act} {n : Nat} (sl : Sl n a S) {ps : List (Nat × Operand)} {z z2 : List Seg} (h : Bld S place ps z z2) :
    Fit z → Instr.fill p (flat z).toArray (ps.map fun q => (q.1, a.eval q.2)) = some (flat z2).toArray ∧ Fit z2 := by
  induction h with
  | nil z => exact fun hf => ⟨rfl, hf⟩
  | @one i k x v r z z1 z2 hx h1 hpl hs _ ih =>
    intro hf
    obtain ⟨f1, f2, f3⟩ := set1_flat hf hs
    have hc : v.cells = #[v] := by cases v <;> first | rfl | (cases h1; done)
    obtain ⟨i1, i2⟩ := ih f2
    refine ⟨?_, i2⟩
    have hcond : (decide ((#[v] : Array Value).size ≠ 1) || decide (k + (#[v] : Array Value).size > (flat z).toArray.size)) = false := by simp; omega
    simp only [List.map_cons, Instr.fill, hp _ _ _ hpl, sl.ev hx, hc, hcond, Bool.false_eq_true, if_false]
    rw [f1] at i1
    simpa using i1
  | @agg i k n x ds r z z1 z2 hx hd hn hpl hs _ ih =>
    intro hf
    obtain ⟨f1, f2, f3⟩ := putAt_flat hf hd hs
    obtain ⟨i1, i2⟩ := ih f2
    refine ⟨?_, i2⟩
    have hcond : ((AG ds).cells.size ≠ n || k + (AG ds).cells.size > (flat z).toArray.size) = false := by simp [AG, Value.cells]; omega
    simp only [List.map_cons, Instr.fill, hp _ _ _ hpl, sl.ev hx, hcond, Bool.false_eq_true, if_false]
    have := foldl_set_flat n k (flat ds) 0 (flat z) (by omega)
    rw [f1] at i1
    simp only [Nat.add_zero, hn] at this
    have e : Array.foldl (fun cs (x : Value × Nat) => cs.setIfInBounds (k + x.2) x.1) (flat z).toArray (AG ds).cells.zipIdx = (List.take k (flat z) ++ flat ds ++ List.drop (k + n) (flat z)).toArray := by
      rw [← this, ← Array.foldl_toList]
      congr 1
      simp [AG, Value.cells]
    rw [e]
    exact i1

end Go.X

/- Regions that draw their order: a plan tells in which order they may be gone through. Operations that only look are taken first; of the others, whichever may come up. -/
namespace Go.X
open Go.RowKit

inductive Plan where
  | done
  | q (i : Nat) (p : Plan)
  | l (i : Nat) (p : Plan)
  | l2 (i : Nat) (p : Plan) (j : Nat) (r : Plan)
  | l3 (i : Nat) (p : Plan) (j : Nat) (r : Plan) (k : Nat) (s : Plan)

def planB (ops : Array Oper) : Plan → Nat → Array Bool → Bool
  | .done, _, listed => (Region.ready .any ops listed).isEmpty
  | .q i p, f + 1, listed => (Region.ready .any ops listed).contains i && Region.free .any ops listed i && planB ops p f (listed.setIfInBounds i true)
  | .l i p, f + 1, listed => (Region.ready .any ops listed == [i]) && planB ops p f (listed.setIfInBounds i true)
  | .l2 i p j r, f + 1, listed => (Region.ready .any ops listed == [i, j]) && planB ops p f (listed.setIfInBounds i true) && planB ops r f (listed.setIfInBounds j true)
  | .l3 i p j r k s, f + 1, listed => (Region.ready .any ops listed == [i, j, k]) && planB ops p f (listed.setIfInBounds i true) && planB ops r f (listed.setIfInBounds j true) && planB ops s f (listed.setIfInBounds k true)
  | _, 0, _ => false

def planP (P : Program) (ops : Array Oper) (Q : Post) (T : World → Prop) : Plan → Act → World → Prop
  | .done, a, w => Q .normal a w
  | .q i p, a, w => ∃ o v, ops[i]? = some o ∧ YieldsIf P ops T o v a ∧ planP P ops Q T p (a.put o.dst v) w
  | .l i p, a, w => wpOp P ops Q i (fun a' w' => T w' ∧ planP P ops Q T p a' w') a w
  | .l2 i p j r, a, w => wpOp P ops Q i (fun a' w' => T w' ∧ planP P ops Q T p a' w') a w ∧ wpOp P ops Q j (fun a' w' => T w' ∧ planP P ops Q T r a' w') a w
  | .l3 i p j r k s, a, w => wpOp P ops Q i (fun a' w' => T w' ∧ planP P ops Q T p a' w') a w ∧ wpOp P ops Q j (fun a' w' => T w' ∧ planP P ops Q T r a' w') a w ∧
      wpOp P ops Q k (fun a' w' => T w' ∧ planP P ops Q T s a' w') a w

/-- The post of a panic hangs on no slot. -/
def Calm (Q : Post) : Prop := ∀ c a d v w, Q (.panic c) (Act.put a d v) w → Q (.panic c) a w

theorem plan_sound {P : Program} {ops : Array Oper} {Q : Post} {T : World → Prop} (hs : Region.noSelect ops = true) (hQ : Calm Q) : ∀ (p : Plan) (f : Nat) (listed : Array Bool) (a : Act) (w : World), planB ops p f listed = true → T w → planP P ops Q T p a w →
    wpAnyH P .any ops Q T f listed a w
  | .done, f, listed, a, w, hB, _, h => by
    unfold planB at hB
    exact wpAnyH_done (by simpa using hB) h f
  | .q i p, 0, _, _, _, hB, _, _ => by simp [planB] at hB
  | .q i p, f + 1, listed, a, w, hB, hT, h => by
    simp only [planB, Bool.and_eq_true] at hB
    obtain ⟨o, v, ho, hy, h'⟩ := h
    exact wpAnyH_take ho hs hB.1.2 hB.1.1 (fun c a w => hQ c a _ _ w) hy hT (plan_sound hs hQ p f _ _ w hB.2 hT h')
  | .l i p, 0, _, _, _, hB, _, _ => by simp [planB] at hB
  | .l i p, f + 1, listed, a, w, hB, hT, h => by
    simp only [planB, Bool.and_eq_true, beq_iff_eq] at hB
    refine wpAnyH_all hB.1 (by simp) fun k hk => ?_
    simp only [List.mem_singleton] at hk
    subst hk
    exact wpOp_mono (fun a' w' ⟨h1, h2⟩ => ⟨h1, plan_sound hs hQ p f _ a' w' hB.2 h1 h2⟩) h
  | .l2 i p j r, 0, _, _, _, hB, _, _ => by simp [planB] at hB
  | .l2 i p j r, f + 1, listed, a, w, hB, hT, h => by
    simp only [planB, Bool.and_eq_true, beq_iff_eq] at hB
    refine wpAnyH_all hB.1.1 (by simp) fun k hk => ?_
    simp only [List.mem_cons, List.not_mem_nil, or_false] at hk
    rcases hk with rfl | rfl
    · exact wpOp_mono (fun a' w' ⟨h1, h2⟩ => ⟨h1, plan_sound hs hQ p f _ a' w' hB.1.2 h1 h2⟩) h.1
    · exact wpOp_mono (fun a' w' ⟨h1, h2⟩ => ⟨h1, plan_sound hs hQ r f _ a' w' hB.2 h1 h2⟩) h.2
  | .l3 i p j r k s, 0, _, _, _, hB, _, _ => by simp [planB] at hB
  | .l3 i p j r k s, f + 1, listed, a, w, hB, hT, h => by
    simp only [planB, Bool.and_eq_true, beq_iff_eq] at hB
    refine wpAnyH_all hB.1.1.1 (by simp) fun x hx => ?_
    simp only [List.mem_cons, List.not_mem_nil, or_false] at hx
    rcases hx with rfl | rfl | rfl
    · exact wpOp_mono (fun a' w' ⟨h1, h2⟩ => ⟨h1, plan_sound hs hQ p f _ a' w' hB.1.1.2 h1 h2⟩) h.1
    · exact wpOp_mono (fun a' w' ⟨h1, h2⟩ => ⟨h1, plan_sound hs hQ r f _ a' w' hB.1.2 h1 h2⟩) h.2.1
    · exact wpOp_mono (fun a' w' ⟨h1, h2⟩ => ⟨h1, plan_sound hs hQ s f _ a' w' hB.2 h1 h2⟩) h.2.2

/-- The goal: what is left of the plan. Lr: the blocks that are looked into by operations that are taken first: nothing in the region changes them. -/
def WD (c : Cx) (ops : Array Oper) (Q : Post) (Lr : List (Nat × Blk)) (p : Plan) (S : Slots) (L : List (Nat × Blk)) : Prop :=
  ∀ a w, St c S L a w → planP c.P ops Q (fun w => HP c.w0 w c.O Lr) p a w

/-- Operation i comes up; behind it Lr stands as it did. -/
def WO (c : Cx) (ops : Array Oper) (Q : Post) (Lr : List (Nat × Blk)) (i : Nat) (p : Plan) (S : Slots) (L : List (Nat × Blk)) : Prop :=
  ∀ a w, St c S L a w → wpOp c.P ops Q i (fun a' w' => HP c.w0 w' c.O Lr ∧ planP c.P ops Q (fun w => HP c.w0 w c.O Lr) p a' w') a w

def planOK (ops : Array Oper) (p : Plan) : Bool := Region.noSelect ops && planB ops p ops.size (Array.replicate ops.size false)

section
variable {c : Cx} {Q : Post} {S : Slots} {L L' Lr : List (Nat × Blk)} {ops : Array Oper} {ty : TypeId} {pos : String} {af : Array Edge} {op : Op} {p r s : Plan} {i j k : Nat}

theorem W.drawn {id : Nat} (p : Plan) (Lr : List (Nat × Blk)) (hm : c.P.follows .mixedOrders = true) (hQ : Calm Q) (hB : planOK ops p = true) (hs : Lr.Sublist L) (h : WD c ops Q Lr p S L) : W c (.region id ops true) Q S L := fun a w st => by
  simp only [planOK, Bool.and_eq_true] at hB
  have hp : HP c.w0 { w with drawn := w.drawn + 1 } c.O L := st.hp.drew _
  exact wp_region_held hm (plan_sound hB.1 hQ p _ _ a _ hB.2 (hp.sub hs) (h a _ ⟨st.sl, hp⟩))

theorem WD.done (h : WQ c Q .normal S L) : WD c ops Q Lr .done S L := fun a w st => h a w st

theorem WD.q {t : Tmp} {v : Value} (ho : ops[i]? = some ⟨some t, op, ty, pos, af, none⟩) (hd : Nat.blt t c.n = true) (hv : Val c S Lr op ty v) (h : WD c ops Q Lr p ((t, v) :: S) L) : WD c ops Q Lr (.q i p) S L := fun a w st =>
  ⟨_, v, ho, .inl ⟨by simp [Region.wanted], fun w' hw' => by rw [ex_eq]; exact hv a w' ⟨st.sl, hw'⟩⟩, h _ w ⟨st.sl.put (blt_lt hd) v, st.hp⟩⟩
theorem WD.no {t : Tmp} {j : Nat} {b b' : Bool} (ho : ops[i]? = some ⟨some t, op, ty, pos, af, some (j, b)⟩) (hd : Nat.blt t c.n = true) (hg : guardOf ops S j = some (.bool b')) (hb : b' = !b) (h : WD c ops Q Lr p ((t, undef) :: S) L) : WD c ops Q Lr (.q i p) S L := fun a w st => by
  have := yielded_of st.sl hg
  subst hb
  exact ⟨_, undef, ho, .inr ⟨by cases b <;> simp [Region.wanted, this], rfl⟩, h _ w ⟨st.sl.put (blt_lt hd) undef, st.hp⟩⟩
theorem WD.yes {t : Tmp} {v : Value} {j : Nat} {b b' : Bool} (ho : ops[i]? = some ⟨some t, op, ty, pos, af, some (j, b)⟩) (hd : Nat.blt t c.n = true) (hg : guardOf ops S j = some (.bool b')) (hb : b' = b) (hv : Val c S Lr op ty v) (h : WD c ops Q Lr p ((t, v) :: S) L) :
    WD c ops Q Lr (.q i p) S L := fun a w st => by
  have := yielded_of st.sl hg
  subst hb
  exact ⟨_, v, ho, .inl ⟨by cases b' <;> simp [Region.wanted, this], fun w' hw' => by rw [ex_eq]; exact hv a w' ⟨st.sl, hw'⟩⟩, h _ w ⟨st.sl.put (blt_lt hd) v, st.hp⟩⟩

theorem WD.l (h : WO c ops Q Lr i p S L) : WD c ops Q Lr (.l i p) S L := h
theorem WD.l2 (h1 : WO c ops Q Lr i p S L) (h2 : WO c ops Q Lr j r S L) : WD c ops Q Lr (.l2 i p j r) S L := fun a w st => ⟨h1 a w st, h2 a w st⟩
theorem WD.l3 (h1 : WO c ops Q Lr i p S L) (h2 : WO c ops Q Lr j r S L) (h3 : WO c ops Q Lr k s S L) : WD c ops Q Lr (.l3 i p j r k s) S L := fun a w st => ⟨h1 a w st, h2 a w st, h3 a w st⟩

theorem sub_of_mem {w0 w : World} {O : List Nat} (h : HP w0 w O L') (hn : (Lr.map (·.1)).Nodup) (hs : ∀ p ∈ Lr, p ∈ L') : HP w0 w O Lr :=
  ⟨h.os, h.tape, h.output, h.size, h.keep, fun p hp => h.held p (hs p hp), fun p hp => h.own p (hs p hp), hn⟩

theorem WO.eff {d : Option Tmp} {R : Value → List (Nat × Blk) → Prop} (ho : ops[i]? = some ⟨d, op, ty, pos, af, none⟩) (hd : inB c.n d = true) (hLr : Lr.Sublist L) (hv : Eff c S L op ty R) (h : ∀ v L', R v L' → (∀ p ∈ Lr, p ∈ L') ∧ WD c ops Q Lr p (putS d v S) L') : WO c ops Q Lr i p S L := fun a w st => by
  obtain ⟨v, w', L', hr, hp, r⟩ := hv a w st
  rw [← ex_eq a.eval d op ty pos af none] at hr
  obtain ⟨h1, h2⟩ := h v L' r
  have hn : (Lr.map (·.1)).Nodup := st.hp.nodup.sublist (hLr.map _)
  unfold wpOp
  simp only [ho]
  rw [if_pos (by simp [Region.wanted])]
  refine .inl ?_
  unfold Oper.wp
  rcases hr with hr | ⟨hr, rfl⟩
  · rw [hr]; exact ⟨sub_of_mem hp hn h1, h2 _ _ ⟨st.sl.putS hd v, hp⟩⟩
  · rw [hr]; exact ⟨sub_of_mem hp hn h1, h2 _ _ ⟨st.sl.putS hd _, hp⟩⟩

theorem WO.cal {d : Option Tmp} {R : Value → List (Nat × Blk) → Prop} (ho : ops[i]? = some ⟨d, op, ty, pos, af, none⟩) (hd : inB c.n d = true) (hLr : Lr.Sublist L) (hv : Cal c S L op ty R) (h : ∀ v L', R v L' → (∀ p ∈ Lr, p ∈ L') ∧ WD c ops Q Lr p (putS d v S) L') : WO c ops Q Lr i p S L := fun a w st => by
  obtain ⟨f, args, hr, hc⟩ := hv a w st
  rw [← ex_eq a.eval d op ty pos af none] at hr
  have hn : (Lr.map (·.1)).Nodup := st.hp.nodup.sublist (hLr.map _)
  unfold wpOp
  simp only [ho]
  rw [if_pos (by simp [Region.wanted])]
  refine .inl ?_
  unfold Oper.wp
  rw [hr]
  refine hc.mono fun e w' ⟨v, L', he, hp, r⟩ => ?_
  obtain ⟨h1, h2⟩ := h v L' r
  subst he
  exact ⟨sub_of_mem hp hn h1, h2 _ _ ⟨st.sl.putS hd v, hp⟩⟩

theorem Calm.body {P : Program} {fn : Func} {R : Ending → World → Prop} : Calm (bodyPost P fn R) := fun _ a d _ _ h => by
  cases d <;> exact h
theorem Calm.then {K : Act → World → Prop} (h : Calm Q) : Calm (Exit.then K Q) := h
theorem Calm.inBlock {id : Nat} (h : Calm Q) : Calm (Exit.inBlock id Q) := h
end

end Go.X

/- Short steps for the walk: moves, guards, atomic numbers. -/
namespace Go.X
open Go.RowKit

section
variable {c : Cx} {Q : Post} {S : Slots} {L L' Lr : List (Nat × Blk)} {ops : Array Oper} {d : Option Tmp} {t : Tmp} {ty : TypeId} {pos : String} {af : Array Edge} {rest : List Oper} {op : Op} {x y : Operand} {v : Value} {j : Nat} {b : Bool}

theorem WL.mv (hd : Nat.blt t c.n = true) (hx : ev S x = some v) (k : WL c ops Q rest ((t, v) :: S) L) : WL c ops Q (⟨some t, .move x, ty, pos, af, none⟩ :: rest) S L := WL.val hd (V_move hx) k
theorem WL.as (hd : Nat.blt t c.n = true) (hx : ev S x = some v) (k : WL c ops Q rest ((t, v) :: S) L) : WL c ops Q (⟨some t, .assign x, ty, pos, af, none⟩ :: rest) S L := WL.val hd (V_assign hx) k

theorem WL.split {b' : Bool} (_ : guardOf ops S j = some (.bool b')) (h1 : b' = true → WL c ops Q (⟨d, op, ty, pos, af, some (j, b)⟩ :: rest) S L) (h2 : b' = false → WL c ops Q (⟨d, op, ty, pos, af, some (j, b)⟩ :: rest) S L) :
    WL c ops Q (⟨d, op, ty, pos, af, some (j, b)⟩ :: rest) S L := by
  cases b'
  · exact h2 rfl
  · exact h1 rfl
theorem WL.splitD {p : Prop} [Decidable p] (_ : guardOf ops S j = some (.bool (decide p))) (h1 : p → WL c ops Q (⟨d, op, ty, pos, af, some (j, b)⟩ :: rest) S L) (h2 : ¬ p → WL c ops Q (⟨d, op, ty, pos, af, some (j, b)⟩ :: rest) S L) :
    WL c ops Q (⟨d, op, ty, pos, af, some (j, b)⟩ :: rest) S L := by
  by_cases h : p
  · exact h1 h
  · exact h2 h

theorem V_pick_td {z : Operand} {p : Prop} [Decidable p] (ht : ev S z = some (.bool (decide p))) (hp : p) (h : ev S x = some v) : Val c S L (.pick z x y) ty v := V_pick_t ht (by simpa using hp) h
theorem V_pick_fd {z : Operand} {p : Prop} [Decidable p] (ht : ev S z = some (.bool (decide p))) (hp : ¬ p) (h : ev S y = some v) : Val c S L (.pick z x y) ty v := V_pick_f ht (by simpa using hp) h

/-! ### atomic numbers -/
theorem run_ext {f : FuncId} {xs : Array Operand} {ats : Array TypeId} {vs : List Value} {a : Act} {w w' : World} {n : Next} (st : St c S L a w) (ha : evs S xs.toList = some vs) (h : (callFunc f vs.toArray).run c.P w = .ok n w') :
    (ex a.eval (.call ⟨.value (.func f), xs, ats⟩) ty).run c.P w = .ok n w' := by
  have := evs_eq st.sl ha
  have e : xs.map a.eval = vs.toArray := by
    rw [← this, ← Array.toList_inj]; simp
  simp [ex, execOp, resolve, e, Act.eval, Deferred.ofValue, invoke, h]

def extB (P : Program) (f : FuncId) (e : Array Value → Sem Value) : Prop := ∃ fn, P.funcs[f]? = some fn ∧ (fn.name == "runtime.NumGoroutine") = false ∧ fn.body.isNone = true ∧ Extern.findNext fn = none ∧ Extern.find fn = some e

theorem store_hp {w : World} {bl o : Nat} {cs cs' : List Seg} {t : TypeId} {v : Value} (hp : HP c.w0 w c.O L) (hs : set1 cs o v = some cs') (hu : Upd bl (.cells cs' t) L (.cells cs t) L') :
    HP c.w0 (w.setCell ⟨bl, o, none⟩ v) c.O L' ∧ (∃ u, w.cell? ⟨bl, o, none⟩ = some u) ∧ w.frozen? ⟨bl, o, none⟩ = false := by
  obtain ⟨hf, hb⟩ := hp.held _ hu.mem
  simp only at hb
  obtain ⟨f1, f2, f3⟩ := set1_flat hf hs
  refine ⟨hp.upd hu rfl rfl rfl Array.size_modify (fun i hi => ?_) ⟨f2, ?_⟩, ⟨_, (cell_of_heap hb o).trans (List.getElem?_eq_getElem f3)⟩, by simp [World.frozen?, hb]⟩
  · rw [setCell_heap]; simp only [hi, if_false]; cases w.heap[i]? <;> rfl
  · rw [setCell_heap, hb, f1]; simp

theorem E_astore {f : FuncId} {xs : Array Operand} {ats : Array TypeId} {k : IntKind} {n : Int} {bl o : Nat} {cs cs' : List Seg} {t : TypeId} (he : extB c.P f Extern.Atomic.storeT) (ha : evs S xs.toList = some [.pointer (some ⟨bl, o, none⟩), .int k n])
    (hs : set1 cs o (.int k n) = some cs') (hu : Upd bl (.cells cs' t) L (.cells cs t) L') : Eff c S L (.call ⟨.value (.func f), xs, ats⟩) ty fun u M => u = .tuple #[] ∧ M = L' := fun a w st => by
  obtain ⟨fn, h1, h2, h3, h4, h5⟩ := he
  obtain ⟨p1, ⟨u, p2⟩, p3⟩ := store_hp (c := c) st.hp hs hu
  exact ⟨_, _, _, .inl (run_ext st ha (run_call_store h1 h2 h3 h4 h5 p2 p3)), p1, rfl, rfl⟩

end
end Go.X

/- '==' between structs and arrays of integers and bools: cell by cell. -/
namespace Go.X
open Go.RowKit

/-- A cell's kind. -/
def kd : Value → Nat
  | .bool _ => 1
  | .int .i8 _ => 2
  | .int .i16 _ => 3
  | .int .i32 _ => 4
  | .int .i64 _ => 5
  | .int .u8 _ => 6
  | .int .u16 _ => 7
  | .int .u32 _ => 8
  | .int .u64 _ => 9
  | _ => 0
def kdOf (k : IntKind) : Nat := kd (.int k 0)

theorem kd_bool {v : Value} (h : kd v = 1) : ∃ b, v = .bool b := by
  cases v with
  | bool b => exact ⟨b, rfl⟩
  | int k n => cases k <;> simp [kd] at h
  | _ => simp [kd] at h
theorem kd_int {v : Value} {k : IntKind} (h : kd v = kdOf k) : ∃ n, v = .int k n := by
  cases v with
  | int k' n => cases k <;> cases k' <;> first | exact ⟨n, rfl⟩ | (simp [kd, kdOf] at h; done)
  | _ => cases k <;> simp [kd, kdOf] at h

def cEq : Value → Value → Bool
  | .bool a, .bool b => a == b
  | .int _ a, .int _ b => a == b
  | _, _ => false
def lEq : List Value → List Value → Bool
  | [], [] => true
  | x :: xs, y :: ys => cEq x y && lEq xs ys
  | _, _ => false

theorem lEq_append : ∀ {a c b d : List Value}, a.length = c.length → lEq (a ++ b) (c ++ d) = (lEq a c && lEq b d)
  | [], [], b, d, _ => by simp [lEq]
  | x :: a, y :: c, b, d, h => by
    simp only [List.cons_append, lEq]
    rw [lEq_append (by simpa using h), Bool.and_assoc]
  | [], _ :: _, _, _, h => by simp at h
  | _ :: _, [], _, _, h => by simp at h

def fieldsW (P : Program) (sh : TypeId → Option (List Nat)) : List Field → Nat → Option (List Nat)
  | [], _ => some []
  | f :: r, o => if f.name = "_" ∨ f.offset ≠ o then none else
    match sh f.type with
    | some s => if P.cellsOf f.type = s.length then (fieldsW P sh r (o + s.length)).map (s ++ ·) else none
    | none => none

/-- The kinds of a type's cells: integers and bools alone, no field blank, all in their order. -/
def shape (P : Program) : Nat → TypeId → Option (List Nat)
  | 0, _ => none
  | d + 1, t => match P.underlying t with
    | some .bool => if P.cellsOf t = 1 then some [1] else none
    | some (.int k) => if P.cellsOf t = 1 then some [kdOf k] else none
    | some (.array n e) => match shape P d e with
      | some s => if P.cellsOf e = s.length ∧ P.cellsOf t = n * s.length then some (List.replicate n s).flatten else none
      | none => none
    | some (.struct fs) => if P.stoodInHeld t then none else
      match fieldsW P (shape P d) fs.toList 0 with
      | some s => if P.cellsOf t = s.length then some s else none
      | none => none
    | _ => none

def aggT (P : Program) (t : TypeId) : Bool := match P.underlying t with
  | some (.struct _) | some (.array _ _) => true
  | _ => false
/-- The value of type t whose cells these are. -/
def tv (P : Program) (t : TypeId) (l : List Value) : Value := if aggT P t then .agg l.toArray else l.headD undef

def EqS (P : Program) (m : Nat) (t : TypeId) (sh : List Nat) : Prop :=
  P.cellsOf t = sh.length ∧ (P.underlying t).isSome = true ∧ (aggT P t = false → sh.length = 1) ∧ ∀ d w (xs ys : List Value), xs.map kd = sh → ys.map kd = sh → (Op.equalIn (d + m) t (tv P t xs) (tv P t ys)).run P w = .ok (lEq xs ys) w

theorem run_part_tv {P : Program} {w : World} {t : TypeId} {l : List Value} {o n : Nat} (hu : (P.underlying t).isSome = true) (hc : P.cellsOf t = n) (ha : aggT P t = false → n = 1) (hle : o + n ≤ l.length) : (part t l.toArray o).run P w = .ok (tv P t ((l.drop o).take n)) w := by
  obtain ⟨d, hd⟩ := Option.isSome_iff_exists.1 hu
  obtain ⟨i, hi⟩ := info_of_underlying hd
  have agg : (isAgg t).run P w = .ok (aggT P t) w := by
    unfold isAgg aggT
    simp only [Sem.run_bind, run_underlying hd, Result.andThen_ok, hd]
    cases d <;> rfl
  unfold part tv
  simp only [Sem.run_bind, agg, Result.andThen_ok]
  cases hA : aggT P t with
  | true =>
    simp only [if_true, Sem.run_bind, run_sizeOf w hi, hc, Result.andThen_ok]
    simp [List.extract_toArray, List.extract_eq_take_drop] <;> rfl
  | false =>
    have := ha hA
    subst this
    have hlt : o < l.length := by omega
    simp only [Bool.false_eq_true, if_false, List.getElem?_toArray, List.getElem?_eq_getElem hlt]
    rw [List.drop_eq_getElem_cons hlt]
    rfl

theorem map_one {α β : Type} {f : α → β} {l : List α} {b : β} (h : l.map f = [b]) : ∃ x, l = [x] ∧ f x = b := by
  match l, h with
  | [x], h => exact ⟨x, rfl, by simpa using h⟩

theorem eq_shape (P : Program) : ∀ (m : Nat) (t : TypeId) (sh : List Nat), shape P m t = some sh → EqS P m t sh
  | 0, t, sh, h => by simp [shape] at h
  | m + 1, t, sh, h => by
    unfold shape at h
    split at h
    · -- bool
      rename_i hu
      split at h
      · rename_i hc
        cases h
        have ha : aggT P t = false := by simp [aggT, hu]
        refine ⟨hc, by rw [hu]; rfl, fun _ => rfl, fun d w xs ys hx hy => ?_⟩
        obtain ⟨x, rfl, hx1⟩ := map_one hx
        obtain ⟨y, rfl, hy1⟩ := map_one hy
        obtain ⟨a, rfl⟩ := kd_bool hx1
        obtain ⟨b, rfl⟩ := kd_bool hy1
        rw [← Nat.add_assoc]
        simp [tv, ha, lEq, cEq, Op.equalIn, run_underlying hu]
      · cases h
    · rename_i k hu
      split at h
      · rename_i hc
        cases h
        have ha : aggT P t = false := by simp [aggT, hu]
        refine ⟨hc, by rw [hu]; rfl, fun _ => rfl, fun d w xs ys hx hy => ?_⟩
        obtain ⟨x, rfl, hx1⟩ := map_one hx
        obtain ⟨y, rfl, hy1⟩ := map_one hy
        obtain ⟨a, rfl⟩ := kd_int hx1
        obtain ⟨b, rfl⟩ := kd_int hy1
        rw [← Nat.add_assoc]
        simp [tv, ha, lEq, cEq, Op.equalIn, run_underlying hu]
      · cases h
    · rename_i n e hu
      split at h
      · rename_i s hs
        split at h
        · rename_i hc
          cases h
          obtain ⟨i1, i2, i3, i4⟩ := eq_shape P m e s hs
          have ha : aggT P t = true := by simp [aggT, hu]
          obtain ⟨de, hde⟩ := Option.isSome_iff_exists.1 i2
          obtain ⟨ie, hie⟩ := info_of_underlying hde
          refine ⟨by rw [hc.2]; simp, by rw [hu]; rfl, (fun h => by rw [ha] at h; cases h), fun d w xs ys hx hy => ?_⟩
          simp only [tv, ha, if_true]
          rw [← Nat.add_assoc, run_equalIn_array w (d + m) xs.toArray ys.toArray hu hie, i1]
          have key : ∀ (k j : Nat) (xs ys : List Value), (xs.drop (j * s.length)).map kd = (List.replicate k s).flatten → (ys.drop (j * s.length)).map kd = (List.replicate k s).flatten →
              j * s.length ≤ xs.length → j * s.length ≤ ys.length →
              (Op.eqItems (d + m) e s.length xs.toArray ys.toArray (List.range' j k)).run P w = .ok (lEq (xs.drop (j * s.length)) (ys.drop (j * s.length))) w := by
            intro k
            induction k with
            | zero =>
              intro j xs ys h1 h2 _ _
              have e1 : xs.drop (j * s.length) = [] := by simpa using h1
              have e2 : ys.drop (j * s.length) = [] := by simpa using h2
              rw [e1, e2]
              simp [Op.eqItems, lEq]
            | succ k ih =>
              intro j xs ys h1 h2 l1 l2
              have n1 := congrArg List.length h1
              have n2 := congrArg List.length h2
              have nr : ((List.replicate (k + 1) s).flatten).length = (k + 1) * s.length := by simp
              rw [nr, List.length_map, List.length_drop] at n1 n2
              have hm : (k + 1) * s.length = k * s.length + s.length := by rw [Nat.add_mul, Nat.one_mul]
              have hm2 : (j + 1) * s.length = j * s.length + s.length := by rw [Nat.add_mul, Nat.one_mul]
              have t1 : ((xs.drop (j * s.length)).take s.length).map kd = s := by rw [List.map_take, h1]; simp [List.replicate_succ]
              have t2 : ((ys.drop (j * s.length)).take s.length).map kd = s := by rw [List.map_take, h2]; simp [List.replicate_succ]
              have r1 : (xs.drop ((j + 1) * s.length)).map kd = (List.replicate k s).flatten := by
                rw [hm2, ← List.drop_drop, List.map_drop, h1]; simp [List.replicate_succ]
              have r2 : (ys.drop ((j + 1) * s.length)).map kd = (List.replicate k s).flatten := by
                rw [hm2, ← List.drop_drop, List.map_drop, h2]; simp [List.replicate_succ]
              have sp1 : xs.drop (j * s.length) = (xs.drop (j * s.length)).take s.length ++ xs.drop ((j + 1) * s.length) := by
                rw [hm2, ← List.drop_drop, List.take_append_drop]
              have sp2 : ys.drop (j * s.length) = (ys.drop (j * s.length)).take s.length ++ ys.drop ((j + 1) * s.length) := by
                rw [hm2, ← List.drop_drop, List.take_append_drop]
              simp only [List.range'_succ, Op.eqItems, Sem.run_bind]
              rw [run_part_tv i2 i1 i3 (by omega)]
              simp only [Result.andThen_ok]
              rw [run_part_tv i2 i1 i3 (by omega)]
              simp only [Result.andThen_ok]
              rw [i4 d w _ _ t1 t2]
              simp only [Result.andThen_ok]
              have sp := lEq_append (a := (xs.drop (j * s.length)).take s.length) (c := (ys.drop (j * s.length)).take s.length) (b := xs.drop ((j + 1) * s.length)) (d := ys.drop ((j + 1) * s.length)) (by simp; omega)
              rw [← sp1, ← sp2] at sp
              rw [sp]
              cases hq : lEq ((xs.drop (j * s.length)).take s.length) ((ys.drop (j * s.length)).take s.length) with
              | false => simp
              | true =>
                simp only [Bool.not_true, Bool.false_eq_true, if_false, Bool.true_and]
                exact ih (j + 1) xs ys r1 r2 (by omega) (by omega)
          rw [List.range_eq_range']
          have := key n 0 xs ys (by simpa using hx) (by simpa using hy) (by simp) (by simp)
          simpa using this
        · cases h
      · cases h
    · rename_i fs hu
      split at h
      · cases h
      · rename_i hst
        split at h
        · rename_i s hs
          split at h
          · rename_i hc
            cases h
            have ha : aggT P t = true := by simp [aggT, hu]
            refine ⟨hc, by rw [hu]; rfl, (fun h => by rw [ha] at h; cases h), fun d w xs ys hx hy => ?_⟩
            have hfs : P.fieldsOf t = fs := by simp [Program.fieldsOf, hu]
            simp only [tv, ha, if_true]
            rw [← Nat.add_assoc, run_equalIn_struct w (d + m) t xs.toArray ys.toArray (by rw [hfs]; exact hu) (by simpa using hst), hfs]
            have key : ∀ (l : List Field) (o : Nat) (s : List Nat) (xs ys : List Value), fieldsW P (shape P m) l o = some s → (xs.drop o).map kd = s → (ys.drop o).map kd = s → o ≤ xs.length → o ≤ ys.length →
                (Op.eqFields (d + m) xs.toArray ys.toArray l).run P w = .ok (lEq (xs.drop o) (ys.drop o)) w := by
              intro l
              induction l with
              | nil =>
                intro o s xs ys hf h1 h2 _ _
                unfold fieldsW at hf
                cases hf
                have e1 : xs.drop o = [] := by simpa using h1
                have e2 : ys.drop o = [] := by simpa using h2
                rw [e1, e2]
                simp [Op.eqFields, lEq]
              | cons f r ih =>
                intro o s xs ys hf h1 h2 l1 l2
                unfold fieldsW at hf
                split at hf
                · cases hf
                · rename_i hno
                  simp only [not_or, ne_eq, Decidable.not_not] at hno
                  obtain ⟨hn, ho⟩ := hno
                  split at hf
                  · rename_i s1 hs1
                    split at hf
                    · rename_i hcf
                      obtain ⟨s2, hs2, rfl⟩ := Option.map_eq_some_iff.1 hf
                      obtain ⟨i1, i2, i3, i4⟩ := eq_shape P m f.type s1 hs1
                      have n1 := congrArg List.length h1
                      have n2 := congrArg List.length h2
                      simp only [List.length_map, List.length_drop, List.length_append] at n1 n2
                      have t1 : ((xs.drop o).take s1.length).map kd = s1 := by rw [List.map_take, h1]; simp
                      have t2 : ((ys.drop o).take s1.length).map kd = s1 := by rw [List.map_take, h2]; simp
                      have r1 : (xs.drop (o + s1.length)).map kd = s2 := by rw [← List.drop_drop, List.map_drop, h1]; simp
                      have r2 : (ys.drop (o + s1.length)).map kd = s2 := by rw [← List.drop_drop, List.map_drop, h2]; simp
                      have sp1 : xs.drop o = (xs.drop o).take s1.length ++ xs.drop (o + s1.length) := by rw [← List.drop_drop, List.take_append_drop]
                      have sp2 : ys.drop o = (ys.drop o).take s1.length ++ ys.drop (o + s1.length) := by rw [← List.drop_drop, List.take_append_drop]
                      simp only [Op.eqFields, hn, ne_eq, not_false_eq_true, if_true, Sem.run_bind, ho]
                      rw [run_part_tv i2 i1 i3 (by omega)]
                      simp only [Result.andThen_ok]
                      rw [run_part_tv i2 i1 i3 (by omega)]
                      simp only [Result.andThen_ok]
                      rw [i4 d w _ _ t1 t2]
                      simp only [Result.andThen_ok]
                      have sp := lEq_append (a := (xs.drop o).take s1.length) (c := (ys.drop o).take s1.length) (b := xs.drop (o + s1.length)) (d := ys.drop (o + s1.length)) (by simp; omega)
                      rw [← sp1, ← sp2] at sp
                      rw [sp]
                      cases hq : lEq ((xs.drop o).take s1.length) ((ys.drop o).take s1.length) with
                      | false => simp
                      | true =>
                        simp only [Bool.not_true, Bool.false_eq_true, if_false, Bool.true_and]
                        exact ih (o + s1.length) s2 xs ys hs2 r1 r2 (by omega) (by omega)
                    · cases hf
                  · cases hf
            have := key fs.toList 0 _ xs ys hs (by simpa using hx) (by simpa using hy) (by simp) (by simp)
            simpa using this
          · cases h
        · cases h
    · cases h

section
variable {c : Cx} {S : Slots} {L : List (Nat × Blk)} {ty : TypeId} {x y : Operand} {T T' : TypeId} {as bs : List Seg}

theorem run_eq_agg {P : Program} {w : World} {m : Nat} {sh : List Nat} (hm : Nat.ble m 9000 = true) (hs : shape P m T = some sh) (hag : aggT P T = true) (h1 : (flat as).map kd = sh) (h2 : (flat bs).map kd = sh) : (Op.equal T (AG as) (AG bs)).run P w = .ok (lEq (flat as) (flat bs)) w := by
  obtain ⟨_, _, _, h⟩ := eq_shape P m T sh hs
  have hle := Nat.le_of_ble_eq_true hm
  have := h (Op.maxDepth - m) w _ _ h1 h2
  simp only [tv, hag, if_true] at this
  rw [show Op.maxDepth - m + m = Op.maxDepth from Nat.sub_add_cancel (Nat.le_trans hle (by decide))] at this
  exact this

theorem guard_agg {P : Program} {w : World} {op : BinOp} (hg : P.eqGuardType P.depth T = false) : (eqGuard op T x y (AG as) (AG bs)).run P w = .ok () w := by
  unfold eqGuard AG
  cases op <;> simp [hg]

theorem V_eqlA (m : Nat) (sh : List Nat) (hm : Nat.ble m 9000 = true) (hs : shape c.P m T = some sh) (hag : aggT c.P T = true) (hg : c.P.eqGuardType c.P.depth T = false) (hx : ev S x = some (AG as)) (hy : ev S y = some (AG bs)) (h1 : (flat as).map kd = sh) (h2 : (flat bs).map kd = sh) :
    Val c S L (.binOp .eql T x y T') ty (.bool (lEq (flat as) (flat bs))) :=
  V_binG hx hy (fun _ => guard_agg hg) fun w => by
    have := run_eq_agg (w := w) hm hs hag h1 h2
    simp only [AG] at this ⊢
    simp only [binOp]; simp [this]
theorem V_neqA (m : Nat) (sh : List Nat) (hm : Nat.ble m 9000 = true) (hs : shape c.P m T = some sh) (hag : aggT c.P T = true) (hg : c.P.eqGuardType c.P.depth T = false) (hx : ev S x = some (AG as)) (hy : ev S y = some (AG bs)) (h1 : (flat as).map kd = sh) (h2 : (flat bs).map kd = sh) :
    Val c S L (.binOp .neq T x y T') ty (.bool (!lEq (flat as) (flat bs))) :=
  V_binG hx hy (fun _ => guard_agg hg) fun w => by
    have := run_eq_agg (w := w) hm hs hag h1 h2
    simp only [AG] at this ⊢
    simp only [binOp]; simp [this]
end
end Go.X

/- More operations: builtins, fields, aggregates built, slices cut. -/
namespace Go.X
open Go.RowKit

def AtW (w : World) (b : Nat) (cs : List Seg) : Prop := Fit cs ∧ ∃ t fz, w.heap[b]? = some (.cells (flat cs).toArray t fz)
theorem AtW.at {c : Cx} {L : List (Nat × Blk)} {b : Nat} {cs : List Seg} (h : AtW c.w0 b cs) (hO : b ∉ c.O) : At c L b cs := .inr ⟨hO, h.1, h.2⟩
theorem At.head {c : Cx} {L : List (Nat × Blk)} {b : Nat} {cs : List Seg} {t : TypeId} : At c ((b, Blk.cells cs t) :: L) b cs := .inl (.inl ⟨t, .head _⟩)
theorem At.headR {c : Cx} {L : List (Nat × Blk)} {b : Nat} {cs : List Seg} : At c ((b, Blk.ro cs) :: L) b cs := .inl (.inr (.head _))
theorem At.tail {c : Cx} {L : List (Nat × Blk)} {b : Nat} {cs : List Seg} {x : Nat × Blk} (h : At c L b cs) : At c (x :: L) b cs :=
  h.imp (Or.imp (fun ⟨t, h⟩ => ⟨t, .tail _ h⟩) (.tail _)) id
theorem At.hp {c : Cx} {L : List (Nat × Blk)} {b : Nat} {cs : List Seg} (h : At c L b cs) {w : World} (hp : HP c.w0 w c.O L) : AtW w b cs := by
  rcases h with (⟨t, h⟩ | h) | ⟨h1, h2, t, fz, h3⟩
  · have := hp.held _ h
    exact ⟨this.1, t, _, this.2⟩
  · exact hp.held _ h
  · refine ⟨h2, t, fz, ?_⟩
    rw [hp.keep b (Array.getElem?_eq_some_iff.1 h3).1 h1]; exact h3
theorem AtW.step {w w' : World} {O : List Nat} {L : List (Nat × Blk)} {b : Nat} {cs : List Seg} (h : AtW w b cs) (hp : HP w w' O L) (hO : b ∉ O) : AtW w' b cs := by
  obtain ⟨h2, t, fz, h3⟩ := h
  refine ⟨h2, t, fz, ?_⟩
  rw [hp.keep b (Array.getElem?_eq_some_iff.1 h3).1 hO]; exact h3

section
variable {c : Cx} {S : Slots} {L L' : List (Nat × Blk)} {ty : TypeId} {x y z : Operand} {T T' : TypeId}

theorem run_builtin {b : Builtin} {xs : Array Operand} {ats : Array TypeId} {vs : List Value} {a : Act} {w w' : World} {v : Value} (st : St c S L a w) (ha : evs S xs.toList = some vs) (h : ∀ cs, (builtin b ats ty cs vs.toArray).run c.P w = .ok (.value v) w') :
    (ex a.eval (.call ⟨.builtin b, xs, ats⟩) ty).run c.P w = .ok (.value v) w' := by
  have := evs_eq st.sl ha
  have e : xs.map a.eval = vs.toArray := by
    rw [← this, ← Array.toList_inj]; simp
  simp [ex, execOp, resolve, e, invoke, h]

theorem V_min {xs : Array Operand} {ats : Array TypeId} {k k' : IntKind} {p q : Int} (ha : evs S xs.toList = some [.int k p, .int k' q]) : Val c S L (.call ⟨.builtin .min, xs, ats⟩) ty (.int k (min p q)) := fun a w st =>
  run_builtin st ha fun cs => by
    have : (if q < p then q else p) = min p q := by omega
    simp [builtin, Builtin.min_, Builtin.min2, this]
theorem V_max {xs : Array Operand} {ats : Array TypeId} {k k' : IntKind} {p q : Int} (ha : evs S xs.toList = some [.int k p, .int k' q]) : Val c S L (.call ⟨.builtin .max, xs, ats⟩) ty (.int k (max p q)) := fun a w st =>
  run_builtin st ha fun cs => by
    have : (if p < q then q else p) = max p q := by omega
    simp [builtin, Builtin.max_, Builtin.max2, this]

def sliceT (P : Program) (t : TypeId) : Bool := match P.underlying t with
  | some (.slice _) => true
  | _ => false
theorem V_lenS {xs : Array Operand} {t : TypeId} {p : Option Addr} {n cap : Nat} (ht : sliceT c.P t = true) (ha : evs S xs.toList = some [.slice p n cap]) : Val c S L (.call ⟨.builtin .len, xs, #[t]⟩) ty (.int .i64 n) := fun a w st =>
  run_builtin st ha fun cs => by
    unfold sliceT at ht
    split at ht <;> try (cases ht; done)
    rename_i hu
    simp [builtin, Builtin.len_, run_underlying hu, goInt]

def stB (P : Program) (t : TypeId) : Bool := match P.underlying t with
  | some (.struct fs) => fs.toList.all fun f => (P.info? f.type).isSome
  | _ => false

theorem run_places {P : Program} {w : World} : ∀ (l : List Field), (l.all fun f => (P.info? f.type).isSome) = true → (l.mapM (fun f => do pure (f.offset, ← sizeOf f.type) : Field → Sem (Nat × Nat))).run P w = .ok (l.map fun f => (f.offset, P.cellsOf f.type)) w
  | [], _ => by simp
  | f :: l, h => by
    simp only [List.all_cons, Bool.and_eq_true] at h
    obtain ⟨i, hi⟩ := Option.isSome_iff_exists.1 h.1
    have ih := run_places (w := w) l h.2
    rw [List.mapM_cons]
    simp only [Sem.run_bind, run_sizeOf w hi, Result.andThen_ok, Sem.run_pure, ih, List.map_cons]

theorem V_build {zs ds : List Seg} {parts : Array (Nat × Operand)} (hT : stB c.P T = true) (hz : zeroIs c.P T zs) (hb : Bld S (fun i k n => fldB c.P T i k n = true) parts.toList zs ds) : Val c S L (.build T parts) ty (AG ds) := fun a w st => by
  obtain ⟨z, h1, h2⟩ := run_zeroValue (w := w) hz
  unfold stB at hT
  split at hT <;> try (cases hT; done)
  rename_i fs hu
  have hp := run_places (w := w) fs.toList hT
  have hfill := hb.fill (p := fun i => (fs.map fun f => (f.offset, c.P.cellsOf f.type))[i]?) (fun i k n h => by
    unfold fldB at h
    rw [hu] at h
    simp only at h
    split at h <;> try (cases h; done)
    rename_i fx hfx
    simp only [Bool.and_eq_true, beq_iff_eq] at h
    obtain ⟨⟨rfl, hs⟩, _⟩ := h
    unfold szB at hs
    split at hs <;> try (cases hs; done)
    rename_i i' hi
    simp only [beq_iff_eq] at hs
    simp [hfx, Program.cellsOf, hi, hs]) st.sl hz.2
  have e : (parts.map fun (i, x) => (i, a.eval x)).toList = parts.toList.map fun q => (q.1, a.eval q.2) := by simp
  simp only [ex, execOp, Instr.build]
  simp only [Sem.run_bind, h1, Result.andThen_ok, run_underlying hu, h2, e]
  rw [Array.mapM_eq_mapM_toList]
  simp only [Sem.run_map, hp, Result.andThen_ok]
  have hfill := hfill.1
  simp only [List.getElem?_toArray, List.getElem?_map, Array.getElem?_toList, Array.getElem?_map] at hfill ⊢
  simp only [hfill]
  simp [AG]
end
end Go.X

/- Calls that change one tracked block; slices that came in; loops over them. -/
namespace Go.X
open Go.RowKit

theorem Upd.split {b : Nat} {k k0 : Blk} {l l' : List (Nat × Blk)} (h : Upd b k l k0 l') : ∃ A B, l = A ++ (b, k0) :: B ∧ l' = A ++ (b, k) :: B := by
  induction h with
  | here k0 l => exact ⟨[], l, rfl, rfl⟩
  | there x _ ih => obtain ⟨A, B, h1, h2⟩ := ih; exact ⟨x :: A, B, by rw [h1]; rfl, by rw [h2]; rfl⟩

theorem HP.mod {w0 w w' : World} {O : List Nat} {L L' : List (Nat × Blk)} {b : Nat} {k1 k2 : Blk} (h : HP w0 w O L) (hu : Upd b k2 L k1 L') (h' : HP w w' [b] [(b, k2)]) : HP w0 w' O L' := by
  obtain ⟨A, B, rfl, rfl⟩ := hu.split
  exact (h.trans (.cons (.nil (A ++ B))) h').perm List.perm_middle

section
variable {c : Cx} {Q : Post} {S : Slots} {L L' Lr : List (Nat × Blk)} {ops : Array Oper} {d : Option Tmp} {ty : TypeId} {pos : String} {af : Array Edge} {rest : List Oper}

theorem C_mod {f : FuncId} {xs : Array Operand} {ats : Array TypeId} {vs : List Value} {b : Nat} {k1 k2 : Blk} (v : Value) (hf : fnB c.P f = true) (ha : evs S xs.toList = some vs) (hu : Upd b k2 L k1 L')
    (hc : ∀ w, HP c.w0 w c.O L → Calls c.P f vs.toArray w fun e w' => e = .returned v ∧ HP w w' [b] [(b, k2)]) : Cal c S L (.call ⟨.value (.func f), xs, ats⟩) ty fun u M => u = v ∧ M = L' :=
  C_fn hf ha fun w hp => (hc w hp).mono fun _ _ ⟨he, hp'⟩ => ⟨v, L', he, hp.mod hu hp', rfl, rfl⟩
theorem WL.mod {f : FuncId} {xs : Array Operand} {ats : Array TypeId} {vs : List Value} {b : Nat} {k1 k2 : Blk} (v : Value) (hd : inB c.n d = true) (hf : fnB c.P f = true) (ha : evs S xs.toList = some vs) (hu : Upd b k2 L k1 L')
    (hc : ∀ w, HP c.w0 w c.O L → Calls c.P f vs.toArray w fun e w' => e = .returned v ∧ HP w w' [b] [(b, k2)])
    (k : WL c ops Q rest (putS d v S) L') : WL c ops Q (⟨d, .call ⟨.value (.func f), xs, ats⟩, ty, pos, af, none⟩ :: rest) S L :=
  WL.cal hd (C_mod v hf ha hu hc) fun u M ⟨h1, h2⟩ => by subst h1; subst h2; exact k
end

/-! ### slices that came in -/
theorem AtW_of_cells {w : World} {b o n : Nat} {f : Nat → Value} (h0 : 0 < n) (h : ∀ i, i < n → w.cell? ⟨b, o + i, none⟩ = some (f i)) :
    ∃ pre post, AtW w b [(o, pre), (n, (List.range n).map f), (post.length, post)] := by
  have hc := h 0 h0
  unfold World.cell? at hc
  split at hc
  · rename_i C T fz hb
    have hcell : ∀ i, i < n → C.toList[o + i]? = some (f i) := fun i hi => by
      have := h i hi
      simp only [World.cell?] at this
      simp only [hb] at this
      simpa using this
    have hlen : o + n ≤ C.toList.length := by
      have := (List.getElem?_eq_some_iff.1 (hcell (n - 1) (by omega))).1
      omega
    have hmid : (C.toList.drop o).take n = (List.range n).map f := by
      apply List.ext_getElem?
      intro i
      by_cases hi : i < n
      · rw [List.getElem?_take_of_lt hi, List.getElem?_drop, hcell i hi]
        simp [List.getElem?_map, List.getElem?_range hi]
      · rw [List.getElem?_eq_none (by simp; omega), List.getElem?_eq_none (by simp; omega)]
    refine ⟨C.toList.take o, C.toList.drop (o + n), Fit.mk (by simp; simp at hlen; omega) (Fit.mk (by simp) (Fit.mk rfl Fit.nil)), T, fz, ?_⟩
    rw [hb]
    congr 2
    have e : flat [(o, C.toList.take o), (n, (List.range n).map f), ((C.toList.drop (o + n)).length, C.toList.drop (o + n))] = C.toList := by
      simp only [flat, List.flatMap_cons, List.flatMap_nil, List.append_nil]
      rw [← hmid, ← List.drop_drop, List.take_append_drop, List.take_append_drop]
    rw [e]
  · cases hc

section
variable {c : Cx} {S : Slots} {L : List (Nat × Blk)} {ty : TypeId} {x : Operand} {T : TypeId}
theorem V_convN {k k' : IntKind} {T T' : TypeId} {p : Int} (hx : ev S x = some (.int k p)) (ht : inB' c.P T' k' = true) (hs : (c.P.underlying T).isSome = true) (h : k'.wrap p = p) : Val c S L (.convert T T' x) ty (.int k' p) := by
  have := V_conv (c := c) (L := L) (ty := ty) hx ht hs
  rwa [h] at this
end

/-! ### guarded operations that change something, in a region that draws -/
section
variable {c : Cx} {Q : Post} {S : Slots} {L Lr : List (Nat × Blk)} {ops : Array Oper} {ty : TypeId} {pos : String} {af : Array Edge} {op : Op} {p : Plan} {i j : Nat}
theorem WO.no {t : Tmp} {b b' : Bool} (ho : ops[i]? = some ⟨some t, op, ty, pos, af, some (j, b)⟩) (hd : Nat.blt t c.n = true) (hg : guardOf ops S j = some (.bool b')) (hb : b' = !b) (hLr : Lr.Sublist L) (h : WD c ops Q Lr p ((t, undef) :: S) L) : WO c ops Q Lr i p S L := fun a w st => by
  have := yielded_of st.sl hg
  unfold wpOp
  simp only [ho]
  subst hb
  rw [if_neg (by cases b <;> simp [Region.wanted, this])]
  exact ⟨st.hp.sub hLr, h _ w ⟨st.sl.put (blt_lt hd) undef, st.hp⟩⟩

theorem WO.cal' {d : Option Tmp} {g : Option (Nat × Bool)} {R : Value → List (Nat × Blk) → Prop} (ho : ops[i]? = some ⟨d, op, ty, pos, af, g⟩) (hw : ∀ a w, St c S L a w → Region.wanted ⟨d, op, ty, pos, af, g⟩ (yielded ops a.tmps) = true) (hd : inB c.n d = true) (hLr : Lr.Sublist L) (hv : Cal c S L op ty R)
    (h : ∀ v L', R v L' → (∀ p ∈ Lr, p ∈ L') ∧ WD c ops Q Lr p (putS d v S) L') : WO c ops Q Lr i p S L := fun a w st => by
  obtain ⟨f, args, hr, hc⟩ := hv a w st
  rw [← ex_eq a.eval d op ty pos af g] at hr
  have hn : (Lr.map (·.1)).Nodup := st.hp.nodup.sublist (hLr.map _)
  unfold wpOp
  simp only [ho]
  rw [if_pos (hw a w st)]
  refine .inl ?_
  unfold Oper.wp
  rw [hr]
  refine hc.mono fun e w' ⟨v, L', he, hp, r⟩ => ?_
  obtain ⟨h1, h2⟩ := h v L' r
  subst he
  exact ⟨sub_of_mem hp hn h1, h2 _ _ ⟨st.sl.putS hd v, hp⟩⟩
end
end Go.X

/- From a row's arguments to what our walks ask. -/
namespace Go.X
open Go.RowKit

/-- A slice of integers that came in. -/
def Ints (w : World) (A : Option Addr) (len : Nat) (k : IntKind) (zs : Nat → Int) : Prop :=
  0 < len → ∃ b o pre post, A = some ⟨b, o, none⟩ ∧ AtW w b [(o, pre), (len, (List.range len).map fun i => .int k (zs i)), (post.length, post)]

theorem spot_none {w : World} {a : Addr} {v : Value} (h : w.cell? a = some v) : a.spot = none := by
  unfold World.cell? at h
  split at h
  · split at h
    · cases h
    · rename_i hs; simpa using hs
  · cases h

theorem Ints.of {w : World} {x : Addr} {len : Nat} {k : IntKind} {zs : List Int} (hl : len ≤ zs.length) (h : ∀ i, i < zs.length → w.cell? (x.add i) = some (.int k (zs.getD i 0))) : Ints w (some x) len k fun i => zs.getD i 0 := fun h0 => by
  have hs := spot_none (h 0 (by omega))
  obtain ⟨b, o, s⟩ := x
  simp only [Addr.add, if_true] at hs
  subst hs
  obtain ⟨pre, post, hA⟩ := AtW_of_cells (w := w) (b := b) (o := o) (n := len) (f := fun i => .int k (zs.getD i 0)) h0 (fun i hi => by
    have := h i (by omega)
    rwa [add_none] at this)
  exact ⟨b, o, pre, post, rfl, hA⟩

theorem Ints.none {w : World} {k : IntKind} {zs : Nat → Int} : Ints w none 0 k zs := fun h => absurd h (by omega)

theorem wf_u8 {n : Int} (h : (Lit.int .u8 n).wf = true) : 0 ≤ n ∧ n ≤ 255 := by
  simp [Lit.wf, IntKind.min, IntKind.max, IntKind.signed, IntKind.bits] at h
  omega
end Go.X

/- The bitwise operators. -/
namespace Go.X
def andI (k : IntKind) (a b : Int) : Int := k.wrap ((BitVec.ofInt k.bits a &&& BitVec.ofInt k.bits b).toNat : Nat)
def orI (k : IntKind) (a b : Int) : Int := k.wrap ((BitVec.ofInt k.bits a ||| BitVec.ofInt k.bits b).toNat : Nat)
def xorI (k : IntKind) (a b : Int) : Int := k.wrap ((BitVec.ofInt k.bits a ^^^ BitVec.ofInt k.bits b).toNat : Nat)
def shlI (k : IntKind) (a n : Int) : Int := k.wrap (a * 2 ^ min n.toNat k.bits)
def shrI (k : IntKind) (a n : Int) : Int := a.fdiv (2 ^ min n.toNat k.bits)
variable {c : Cx} {S : Slots} {L : List (Nat × Blk)} {ty T T' : TypeId} {x y : Operand} {k : IntKind} {p q : Int}
theorem V_and (hx : ev S x = some (.int k p)) (hy : ev S y = some (.int k q)) : Val c S L (.binOp .and T x y T') ty (.int k (andI k p q)) := V_bin hx hy fun w => by simp [binOp, Op.intBits, andI, pure]
theorem V_or (hx : ev S x = some (.int k p)) (hy : ev S y = some (.int k q)) : Val c S L (.binOp .or T x y T') ty (.int k (orI k p q)) := V_bin hx hy fun w => by simp [binOp, Op.intBits, orI, pure]
theorem V_xor (hx : ev S x = some (.int k p)) (hy : ev S y = some (.int k q)) : Val c S L (.binOp .xor T x y T') ty (.int k (xorI k p q)) := V_bin hx hy fun w => by simp [binOp, Op.intBits, xorI, pure]
theorem V_bin2 {op : BinOp} {k' : IntKind} {v : Value} (hx : ev S x = some (.int k p)) (hy : ev S y = some (.int k' q)) (h : ∀ w, (binOp op T (.int k p) (.int k' q)).run c.P w = .ok v w) : Val c S L (.binOp op T x y T') ty v := fun a w st => by
  have h1 := st.sl.ev hx; have h2 := st.sl.ev hy
  have hg : ∀ w, (eqGuard op T x y (.int k p) (.int k' q)).run c.P w = .ok () w := fun w => by
    unfold eqGuard
    cases op <;> simp [pure]
  simp [ex, execOp, h1, h2, hg, h]
theorem V_shl {k' : IntKind} (hx : ev S x = some (.int k p)) (hy : ev S y = some (.int k' q)) (h : 0 ≤ q) : Val c S L (.binOp .shl T x y T') ty (.int k (shlI k p q)) := V_bin2 hx hy fun w => by
  simp [binOp, Op.shift, shlI, pure, show ¬ q < 0 from by omega]
theorem V_shr {k' : IntKind} (hx : ev S x = some (.int k p)) (hy : ev S y = some (.int k' q)) (h : 0 ≤ q) : Val c S L (.binOp .shr T x y T') ty (.int k (shrI k p q)) := V_bin2 hx hy fun w => by
  simp [binOp, Op.shift, shrI, pure, show ¬ q < 0 from by omega]
theorem V_com (hx : ev S x = some (.int k p)) : Val c S L (.unOp .xor T x) ty (.int k (xorI k (if k.signed then -1 else k.max) p)) := fun a w st => by
  have h1 := st.sl.ev hx; simp [ex, execOp, h1, Op.unary, Op.intBits, xorI, pure]
end Go.X

/- Slices: their cells read, own ones grown. -/
namespace Go.X
open Go.RowKit

/-! ### one block taken out -/
inductive Del (b : Nat) (k : Blk) : List (Nat × Blk) → List (Nat × Blk) → Prop where
  | here (L : List (Nat × Blk)) : Del b k ((b, k) :: L) L
  | there {x : Nat × Blk} {L L' : List (Nat × Blk)} (h : Del b k L L') : Del b k (x :: L) (x :: L')
theorem Del.split {b : Nat} {k : Blk} {L L' : List (Nat × Blk)} (h : Del b k L L') : ∃ A B, L = A ++ (b, k) :: B ∧ L' = A ++ B := by
  induction h with
  | here L => exact ⟨[], L, rfl, rfl⟩
  | there h ih => obtain ⟨A, B, h1, h2⟩ := ih; exact ⟨_ :: A, B, by rw [h1]; rfl, by rw [h2]; rfl⟩
theorem Del.mem {b : Nat} {k : Blk} {L L' : List (Nat × Blk)} (h : Del b k L L') : (b, k) ∈ L := by
  obtain ⟨A, B, rfl, _⟩ := h.split; simp
theorem Del.sub {b : Nat} {k : Blk} {L L' : List (Nat × Blk)} (h : Del b k L L') : L'.Sublist L := by
  obtain ⟨A, B, rfl, rfl⟩ := h.split; exact List.Sublist.append (List.Sublist.refl _) (List.sublist_cons_self _ _)
theorem Del.dels {b : Nat} {k : Blk} {L L' : List (Nat × Blk)} (h : Del b k L L') : Dels [b] L L' := by
  obtain ⟨A, B, rfl, rfl⟩ := h.split; exact .cons (.nil _)
theorem Upd.mid {b : Nat} {k k0 : Blk} : ∀ (A B : List (Nat × Blk)), Upd b k (A ++ (b, k0) :: B) k0 (A ++ (b, k) :: B)
  | [], B => .here _ _
  | x :: A, B => .there _ (Upd.mid A B)
theorem HP.front {w0 w : World} {O : List Nat} {L L' : List (Nat × Blk)} {b : Nat} {k k' : Blk} (hD : Del b k L L') (h : ∀ A B, L = A ++ (b, k) :: B → L' = A ++ B → HP w0 w O (A ++ (b, k') :: B)) : HP w0 w O ((b, k') :: L') := by
  obtain ⟨A, B, h1, h2⟩ := hD.split
  rw [h2]
  exact (h A B h1 h2).perm (List.perm_middle.symm)

/-! ### a slice's cells -/
def SrW (w : World) (s : Nat) (A : Option Addr) (n : Nat) (xs : List Value) : Prop :=
  xs.length = n * s ∧ (∀ v ∈ xs, one v = true) ∧ ∀ j v, xs[j]? = some v → ∃ b o, A = some ⟨b, o, none⟩ ∧ w.cell? ⟨b, o + j, none⟩ = some v
def Sr (c : Cx) (L : List (Nat × Blk)) (s : Nat) (A : Option Addr) (n : Nat) (xs : List Value) : Prop := ∀ w, HP c.w0 w c.O L → SrW w s A n xs

theorem SrW.nil {w : World} {s : Nat} {A : Option Addr} : SrW w s A 0 [] := ⟨by simp, by simp, by simp⟩
theorem SrW.len {w : World} {s : Nat} {A : Option Addr} {n : Nat} {xs : List Value} (h : SrW w s A n xs) : xs.length = n * s := h.1
theorem SrW.has {w : World} {s : Nat} {A : Option Addr} {n : Nat} {xs : List Value} (h : SrW w s A n xs) (h0 : 0 < xs.length) : ∃ b o, A = some ⟨b, o, none⟩ := by
  obtain ⟨b, o, h1, _⟩ := h.2.2 0 xs[0] (List.getElem?_eq_getElem h0)
  exact ⟨b, o, h1⟩
theorem AtW.cells {w : World} {b o : Nat} {cs : List Seg} (h : AtW w b cs) {s n : Nat} {xs : List Value} (hx : ((flat cs).drop o).take (n * s) = xs) (hn : o + n * s ≤ (flat cs).length) (h1 : ∀ v ∈ xs, one v = true) : SrW w s (some ⟨b, o, none⟩) n xs := by
  obtain ⟨_, t, fz, hb⟩ := h
  subst hx
  refine ⟨by simp; omega, h1, fun j v hv => ⟨b, o, rfl, ?_⟩⟩
  rw [cell_of_heap hb]
  rw [List.getElem?_take] at hv
  split at hv
  · rw [List.getElem?_drop] at hv; exact hv
  · cases hv
theorem Sr.at {c : Cx} {L : List (Nat × Blk)} {b o : Nat} {cs : List Seg} (h : At c L b cs) {s n : Nat} {xs : List Value} (hx : ((flat cs).drop o).take (n * s) = xs) (hn : o + n * s ≤ (flat cs).length) (h1 : ∀ v ∈ xs, one v = true) : Sr c L s (some ⟨b, o, none⟩) n xs :=
  fun _ hp => (h.hp hp).cells hx hn h1
theorem SrW.step {w w' : World} {O : List Nat} {L : List (Nat × Blk)} {s : Nat} {A : Option Addr} {n : Nat} {xs : List Value} (h : SrW w s A n xs) (hp : HP w w' O L) (hO : ∀ b o, A = some ⟨b, o, none⟩ → b ∉ O) : SrW w' s A n xs := by
  refine ⟨h.1, h.2.1, fun j v hv => ?_⟩
  obtain ⟨b, o, hA, hc⟩ := h.2.2 j v hv
  refine ⟨b, o, hA, ?_⟩
  have hlt : b < w.heap.size := by
    unfold World.cell? at hc
    simp only at hc
    split at hc
    · rename_i hq; exact (Array.getElem?_eq_some_iff.1 hq).1
    · cases hc
  rw [World.cell?_of_block (hp.keep b hlt (hO b o hA))]; exact hc
theorem SrW.old {c : Cx} {L : List (Nat × Blk)} {s : Nat} {A : Option Addr} {n : Nat} {xs : List Value} (h : SrW c.w0 s A n xs) (hO : ∀ b o, A = some ⟨b, o, none⟩ → b ∉ c.O) : Sr c L s A n xs := fun _ hp => h.step hp hO
theorem SrW.old0 {P : Program} {k : Nat} {w0 : World} {L : List (Nat × Blk)} {s : Nat} {A : Option Addr} {n : Nat} {xs : List Value} (h : SrW w0 s A n xs) : Sr ⟨P, k, w0, []⟩ L s A n xs := fun _ hp => h.step hp (fun _ _ _ => by simp)

/-- What 'x[l:h]' yields. -/
def cutA (A : Option Addr) (l m s : Nat) : Option Addr := if m = l then A else A.map (·.add (l * s))
theorem SrW.cut {w : World} {s : Nat} {A : Option Addr} {n m l h : Nat} {xs : List Value} (hs : SrW w s A n xs) (h1 : l ≤ h) (h2 : h ≤ n) (h3 : n ≤ m) : SrW w s (cutA A l m s) (h - l) ((xs.drop (l * s)).take ((h - l) * s)) := by
  have e1 : h * s ≤ n * s := Nat.mul_le_mul_right s h2
  have e2 : (h - l) * s = h * s - l * s := Nat.sub_mul h l s
  have e3 : l * s ≤ h * s := Nat.mul_le_mul_right s h1
  refine ⟨?_, fun v hv => hs.2.1 v (List.drop_subset _ _ (List.take_subset _ _ hv)), fun j v hv => ?_⟩
  · have := hs.1; simp; omega
  · rw [List.getElem?_take] at hv
    split at hv <;> try (cases hv; done)
    rename_i hj
    rw [List.getElem?_drop] at hv
    obtain ⟨b, o, hA, hc⟩ := hs.2.2 _ v hv
    refine ⟨b, o + l * s, ?_, by rw [show o + l * s + j = o + (l * s + j) by omega]; exact hc⟩
    unfold cutA
    rw [hA, if_neg (fun hm => by
      have h0 : h - l = 0 := by omega
      rw [h0] at hj; simp at hj)]
    simp [add_none]
theorem Sr.cut {c : Cx} {L : List (Nat × Blk)} {s : Nat} {A : Option Addr} {n m l h : Nat} {xs : List Value} (hs : Sr c L s A n xs) (h1 : l ≤ h) (h2 : h ≤ n) (h3 : n ≤ m) : Sr c L s (cutA A l m s) (h - l) ((xs.drop (l * s)).take ((h - l) * s)) :=
  fun w hp => (hs w hp).cut h1 h2 h3

theorem SrW.take {w : World} {s : Nat} {A : Option Addr} {n m : Nat} {xs : List Value} (h : SrW w s A n xs) (hm : m ≤ n) : SrW w s A m (xs.take (m * s)) := by
  have e1 : m * s ≤ n * s := Nat.mul_le_mul_right s hm
  refine ⟨by have := h.1; simp; omega, fun v hv => h.2.1 v (List.take_subset _ _ hv), fun j v hv => ?_⟩
  rw [List.getElem?_take] at hv
  split at hv
  · exact h.2.2 j v hv
  · cases hv
theorem SrW.first {P : Program} {w : World} {s : Nat} {A : Option Addr} {n a b : Nat} {xs : List Value} (h : SrW w s A n xs) : (Builtin.firstCells s n (.slice A a b)).run P w = .ok xs.toArray w := by
  by_cases h0 : 0 < xs.length
  · obtain ⟨b', o, hA⟩ := h.has h0
    subst hA
    refine run_firstCells_some w s n _ _ _ xs h.1 fun j v hv => ?_
    obtain ⟨b2, o2, e, hc⟩ := h.2.2 j v hv
    injection e with e; injection e with e1 e2; subst e1; subst e2
    rwa [add_none]
  · have hx : xs = [] := List.length_eq_zero_iff.1 (by omega)
    subst hx
    have hn : n * s = 0 := by have := h.1; simpa using this.symm
    cases A with
    | none => simp [Builtin.firstCells]
    | some a => simp [Builtin.firstCells, hn, loadCells, loadCellsFrom]

section
variable {c : Cx} {S : Slots} {L L' Lr : List (Nat × Blk)} {ty : TypeId} {x y z : Operand} {T T' : TypeId}

theorem V_loadSr {A : Option Addr} {b o q n j : Nat} {xs : List Value} {v : Value} (h : Sr c L 1 A n xs) (hA : A = some ⟨b, o, none⟩) (ht : scB c.P T = true) (hx : ev S x = some (.pointer (some ⟨b, q, none⟩))) (hq : q = o + j) (hv : xs[j]? = some v) : Val c S L (.load T x) ty v := fun a w st => by
  have e1 := st.sl.ev hx
  subst hq
  obtain ⟨b', o', e, hc⟩ := (h w st.hp).2.2 j v hv
  rw [hA] at e
  injection e with e; injection e with e2 e3; subst e2; subst e3
  simp [ex, execOp, e1, Instr.loadAt, Instr.sureAddr, loadVar, run_isAgg_sc ht, load, Sem.run, hc]

/-! ### slices grown -/
/-- t is a slice of e, a type of one cell. -/
def slE (P : Program) (t e by' : Nat) : Bool := match P.underlying t, P.info? e with
  | some (.slice e'), some i => e' == e && i.size == 1 && i.bytes == by' && (match i.zero with | some z => z.cells.size == 1 | none => false)
  | _, _ => false
theorem slE_open {P : Program} {t e by' : Nat} (h : slE P t e by' = true) : P.underlying t = some (.slice e) ∧ ∃ i z, P.info? e = some i ∧ i.size = 1 ∧ i.bytes = by' ∧ i.zero = some z ∧ z.cells.size = 1 := by
  unfold slE at h
  split at h <;> try (cases h; done)
  rename_i e' i hu hi
  simp only [Bool.and_eq_true, beq_iff_eq] at h
  obtain ⟨⟨⟨rfl, h1⟩, h2⟩, h3⟩ := h
  split at h3 <;> try (cases h3; done)
  rename_i z hz
  exact ⟨hu, i, z, hi, h1, h2, hz, by simpa using h3⟩

theorem E_append {n m cap cap2 b : Nat} {xs rest ys : List Value} {A : Option Addr} (e by' : Nat) (ht : slE c.P T e by' = true) (hx : ev S x = some (.slice (some ⟨b, 0, none⟩) n cap)) (hy : ev S y = some (.slice A m cap2))
    (hn : n ≤ cap) (hD : Del b (.cells [(n, xs), (cap - n, rest)] e) L Lr) (hs : Sr c L 1 A m ys) (hb : (n + m) * by' ≤ 140737488355328) (hl : n + m ≤ 9223372036854775807) :
    Eff c S L (.call ⟨.builtin .append, #[x, y], #[T, T]⟩) ty fun v M => ∃ b' cap' rest', n + m ≤ cap' ∧ v = .slice (some ⟨b', 0, none⟩) (n + m) cap' ∧ M = (b', .cells [(n + m, xs ++ ys), (cap' - (n + m), rest')] e) :: Lr := fun a w st => by
  obtain ⟨hu, i, z, hi, h1, h2, hz, h3⟩ := slE_open ht
  obtain ⟨hf, hh⟩ := st.hp.held _ hD.mem
  obtain ⟨hxl, hf2⟩ := hf.cons
  obtain ⟨hrl, _⟩ := hf2.cons
  have hw := hs w st.hp
  have hyl : ys.length = m := by have := hw.1; omega
  have ha : evs S (#[x, y] : Array Operand).toList = some [.slice (some ⟨b, 0, none⟩) n cap, .slice A m cap2] := by simp [evs, hx, hy]
  have hflat : flat [(n, xs), (cap - n, rest)] = xs ++ rest := by simp [flat]
  rw [hflat] at hh
  by_cases hg : n + m ≤ cap
  · have hst := run_storeCells (P := c.P) n ys 0 (xs ++ rest) w hh hw.2.1 (by simp; omega)
    obtain ⟨w', e', p1, p2, p3, p4, p5, p6⟩ := hst
    refine ⟨.slice (some ⟨b, 0, none⟩) (n + m) cap, w', _, .inl (run_builtin st ha fun cs => ?_), ?_, b, cap, rest.drop m, hg, rfl, rfl⟩
    · have hfc := hw.first (P := c.P) (a := m) (b := cap2)
      have hadd : ({ block := b, off := 0 } : Addr).add n = ⟨b, n, none⟩ := by rw [add_none]; simp
      simp [builtin, Builtin.append_, run_underlying hu, sizeOf, typeInfo, hi, h1, Builtin.lenOf, hg, hfc, hadd, e']
    · refine HP.front hD fun A' B' hL _ => ?_
      subst hL
      refine st.hp.upd (Upd.mid A' B') p1 p2 p3 p4 p5 ⟨Fit.mk (by simp; omega) (Fit.mk (by simp; omega) Fit.nil), ?_⟩
      rw [p6]
      congr 2
      simp only [flat, List.flatMap_cons, List.flatMap_nil, List.append_nil, Nat.add_zero]
      rw [List.take_append_of_le_length (by omega), List.take_of_length_le (by omega), List.drop_append, List.drop_eq_nil_of_le (by omega)]
      simp [hxl, hyl]
  · have h0 : 0 < ys.length := by omega
    obtain ⟨b2, o2, hA⟩ := hw.has h0
    subst hA
    have hr := run_append_grow (P := c.P) w T ty e i z hu hi hz ⟨b, 0, none⟩ n cap xs (by rw [h1]; omega) (fun j v hv => by
        rw [add_none, Nat.zero_add, cell_of_heap hh, List.getElem?_append_left (List.getElem?_eq_some_iff.1 hv).1]; exact hv)
      ⟨b2, o2, none⟩ m cap2 ys (by rw [h1]; omega) (fun j v hv => by
        obtain ⟨b3, o3, e3, hc⟩ := hw.2.2 j v hv
        injection e3 with e3; injection e3 with e4 e5; subst e4; subst e5
        rw [add_none]; exact hc) (by omega) (by omega) (growslice_fits (by omega) (by rw [h2]; exact hb))
    have hge := grownCap_ge w (n + m) cap e
    refine ⟨_, w.drew.alloc (.cells (xs.toArray ++ ys.toArray ++ Builtin.zeroCells z.cells (grownCap w (n + m) cap e - (n + m))) e), _, .inl (run_builtin st ha fun cs => ?_), ?_, w.heap.size, grownCap w (n + m) cap e, (Builtin.zeroCells z.cells (grownCap w (n + m) cap e - (n + m))).toList, hge, rfl, rfl⟩
    · simp [builtin, hr]
    · refine ((st.hp.sub hD.sub).drew _).alloc ⟨Fit.mk (by simp; omega) (Fit.mk (by simp [size_zeroCells, h3]) Fit.nil), ?_⟩
      simp [flat]

theorem E_appendN {m cap2 : Nat} {ys : List Value} {A : Option Addr} (e by' : Nat) (ht : slE c.P T e by' = true) (hx : ev S x = some (.slice none 0 0)) (hy : ev S y = some (.slice A m cap2))
    (hs : Sr c L 1 A m ys) (h0 : 0 < m) (hb : m * by' ≤ 140737488355328) (hl : m ≤ 9223372036854775807) :
    Eff c S L (.call ⟨.builtin .append, #[x, y], #[T, T]⟩) ty fun v M => ∃ b' cap' rest', m ≤ cap' ∧ v = .slice (some ⟨b', 0, none⟩) m cap' ∧ M = (b', .cells [(m, ys), (cap' - m, rest')] e) :: L := fun a w st => by
  obtain ⟨hu, i, z, hi, h1, h2, hz, h3⟩ := slE_open ht
  have hw := hs w st.hp
  have hyl : ys.length = m := by have := hw.1; omega
  have ha : evs S (#[x, y] : Array Operand).toList = some [.slice none 0 0, .slice A m cap2] := by simp [evs, hx, hy]
  obtain ⟨b2, o2, hA⟩ := hw.has (by omega)
  subst hA
  have hr := run_append_nil (P := c.P) w T ty e i z hu hi hz ⟨b2, o2, none⟩ m cap2 ys (by rw [h1]; omega) (fun j v hv => by
        obtain ⟨b3, o3, e3, hc⟩ := hw.2.2 j v hv
        injection e3 with e3; injection e3 with e4 e5; subst e4; subst e5
        rw [add_none]; exact hc) h0 (by omega) (by rw [h2]; omega)
  have hge := grownCap_ge w m 0 e
  refine ⟨_, w.drew.alloc (.cells (ys.toArray ++ Builtin.zeroCells z.cells (grownCap w m 0 e - m)) e), _, .inl (run_builtin st ha fun cs => ?_), ?_, w.heap.size, grownCap w m 0 e, (Builtin.zeroCells z.cells (grownCap w m 0 e - m)).toList, hge, rfl, rfl⟩
  · simp [builtin, hr]
  · refine (st.hp.drew _).alloc ⟨Fit.mk (by omega) (Fit.mk (by simp [size_zeroCells, h3]) Fit.nil), ?_⟩
    simp [flat]

theorem V_append0 {n cap cap2 : Nat} {A B : Option Addr} (e by' : Nat) (ht : slE c.P T e by' = true) (hx : ev S x = some (.slice B n cap)) (hy : ev S y = some (.slice A 0 cap2)) (hn : n ≤ cap) :
    Val c S L (.call ⟨.builtin .append, #[x, y], #[T, T]⟩) ty (.slice B n cap) := fun a w st => by
  obtain ⟨hu, i, z, hi, h1, h2, hz, h3⟩ := slE_open ht
  have ha : evs S (#[x, y] : Array Operand).toList = some [.slice B n cap, .slice A 0 cap2] := by simp [evs, hx, hy]
  refine run_builtin st ha fun cs => ?_
  have hfc := (SrW.nil (w := w) (s := 1) (A := A)).first (P := c.P) (a := 0) (b := cap2)
  cases B with
  | none => simp [builtin, Builtin.append_, run_underlying hu, sizeOf, typeInfo, hi, h1, Builtin.lenOf, hn, hfc]
  | some q => simp [builtin, Builtin.append_, run_underlying hu, sizeOf, typeInfo, hi, h1, Builtin.lenOf, hn, hfc, storeCells]
end
end Go.X

/- Slices made, cut, copied; single cells by their place; strings. -/
namespace Go.X
open Go.RowKit
section
variable {c : Cx} {S : Slots} {L L' Lr : List (Nat × Blk)} {ty : TypeId} {x y z : Operand} {T T' : TypeId}

/-! ### one cell by its place -/
theorem V_loadF {b o : Nat} {cs : List Seg} {v : Value} (ht : scB c.P T = true) (hx : ev S x = some (.pointer (some ⟨b, o, none⟩))) (hA : At c L b cs) (hv : (flat cs)[o]? = some v) : Val c S L (.load T x) ty v := V_load1 ht hx hA hv

theorem E_storeF {b o : Nat} {cs cs' : List Seg} {t : TypeId} {v : Value} (ht : szB c.P T 1 = true) (hx : ev S x = some (.pointer (some ⟨b, o, none⟩))) (hy : ev S y = some v) (h1 : one v = true)
    (hu : Upd b (.cells cs' t) L (.cells cs t) L') (hl : o < (flat cs).length) (hf' : Fit cs → Fit cs') (hs : flat cs' = (flat cs).set o v) : Eff c S L (.store T x y) ty (fun u M => u = undef ∧ M = L') := fun a w st => by
  have e1 := st.sl.ev hx; have e2 := st.sl.ev hy
  obtain ⟨hf, hb⟩ := st.hp.held _ hu.mem
  obtain ⟨w', e, p1, p2, p3, p4, p5, p6⟩ := run_storeCells (P := c.P) o [v] 0 (flat cs) w hb (by simpa using h1) (by simp; omega)
  refine ⟨undef, w', L', .inr ⟨?_, rfl⟩, st.hp.upd hu p1 p2 p3 p4 p5 ⟨hf' hf, ?_⟩, rfl, rfl⟩
  · have hcells : v.cells = #[v] := by cases v <;> first | rfl | (simp [Go.X.one] at h1; done)
    simp only [ex, execOp, e1, e2, Instr.storeAt, Instr.sureAddr, storeVar, hcells]
    simp [run_sizeOf_sz ht, e]
  · rw [p6, hs]
    congr 2
    rw [List.set_eq_take_append_cons_drop, if_pos hl]
    simp

/-- A list of integers as cells. -/
def iv (k : IntKind) (l : List Int) : List Value := l.map (Value.int k)
theorem iv_len {k : IntKind} {l : List Int} : (iv k l).length = l.length := by simp [iv]
theorem iv_get {k : IntKind} {l : List Int} {i : Nat} (h : i < l.length) : (iv k l)[i]? = some (.int k (l.getD i 0)) := by
  simp [iv, List.getElem?_eq_getElem h]
theorem iv_set {k : IntKind} {l : List Int} {i : Nat} {n : Int} : (iv k l).set i (.int k n) = iv k (l.set i n) := by simp [iv, List.map_set]
theorem iv_app {k : IntKind} {l l' : List Int} : iv k l ++ iv k l' = iv k (l ++ l') := by simp [iv]
theorem iv_take {k : IntKind} {l : List Int} {i : Nat} : (iv k l).take i = iv k (l.take i) := by simp [iv, List.map_take]
theorem iv_drop {k : IntKind} {l : List Int} {i : Nat} : (iv k l).drop i = iv k (l.drop i) := by simp [iv, List.map_drop]
theorem iv_one {k : IntKind} {l : List Int} : ∀ v ∈ iv k l, one v = true := by simp [iv, one]
theorem iv_rep {k : IntKind} {n : Nat} {a : Int} : List.replicate n (Value.int k a) = iv k (List.replicate n a) := by simp [iv]

/-! ### made -/
theorem E_make {n : Nat} {k k' : IntKind} (e by' : Nat) (zv : Value) (ht : slE c.P T e by' = true) (hz : zeroIs c.P e [(1, [zv])]) (hx : ev S x = some (.int k n)) (hy : ev S y = some (.int k' n)) (hb : n * by' ≤ 281474976710656) (hl : n ≤ 9223372036854775807) :
    Eff c S L (.makeSlice T x y) ty fun v M => ∃ b, v = .slice (some ⟨b, 0, none⟩) n n ∧ M = (b, .cells [(n, List.replicate n zv), (n - n, [])] e) :: L := fun a w st => by
  obtain ⟨hu, i, z, hi, h1, h2, hz', h3⟩ := slE_open ht
  have e1 := st.sl.ev hx; have e2 := st.sl.ev hy
  have hzc : z.cells = #[zv] := by
    obtain ⟨hz1, _⟩ := hz
    simp [hi, hz', flat] at hz1; exact hz1
  have hr := run_makeSlice (P := c.P) w T e i z hu hi hz' k k' n n (by omega) (by omega)
  have hr := run_make (P := c.P) w T e i z hu hi hz' k k' n n (by omega) (by omega) (by rw [h2]; have : ((by' * n : Nat) : Int) ≤ 281474976710656 := by rw [Nat.mul_comm]; omega
                                                                                        rwa [Int.natCast_mul] at this) (by omega)
  refine ⟨_, w.alloc (.cells (madeCells z.cells ((n : Int).toNat * i.size)) e), _, .inl ?_, ?_, w.heap.size, rfl, rfl⟩
  · simp only [ex, execOp, e1, e2, Sem.run_bind, hr, Result.andThen_ok]
    simp
  · refine st.hp.alloc ⟨Fit.mk (by simp) (Fit.mk (by simp) Fit.nil), ?_⟩
    congr 1
    rw [h1, hzc]
    congr 1
    rw [← Array.toList_inj]
    apply List.ext_getElem
    · simp [madeCells, flat]
    · intro j hj1 hj2
      simp [madeCells, flat, Nat.mod_one]

/-! ### cut -/
theorem run_bounds {P : Program} {w : World} {q : Bool} {len cap : Nat} {lo hi : Option Value} {l h : Nat} (h1 : l ≤ h) (h2 : h ≤ cap)
    (hlo : (lo = none ∧ l = 0) ∨ ∃ k, lo = some (.int k l)) (hhi : (hi = none ∧ h = len) ∨ ∃ k, hi = some (.int k h)) : (Instr.sliceBounds q len cap lo hi none).run P w = .ok (l, h, cap) w := by
  rcases hlo with ⟨rfl, rfl⟩ | ⟨k, rfl⟩ <;> rcases hhi with ⟨rfl, rfl⟩ | ⟨k', rfl⟩ <;> simp [Instr.sliceBounds, Instr.sliceBound, asIntOf, h1, h2]

inductive Lo (S : Slots) : Option Operand → Nat → Prop where
  | no : Lo S none 0
  | yes {x : Operand} {k : IntKind} {p : Int} {l : Nat} (hx : ev S x = some (.int k p)) (h : p = l) : Lo S (some x) l
inductive Hi (S : Slots) : Option Operand → Nat → Nat → Prop where
  | no {n : Nat} : Hi S none n n
  | yes {x : Operand} {k : IntKind} {p : Int} {n h : Nat} (hx : ev S x = some (.int k p)) (hp : p = h) : Hi S (some x) n h
theorem Lo.run {n : Nat} {a : Act} {lo : Option Operand} {l : Nat} (h : Lo S lo l) (sl : Sl n a S) : (lo.map a.eval = none ∧ l = 0) ∨ ∃ k, lo.map a.eval = some (.int k l) := by
  cases h with
  | no => exact .inl ⟨rfl, rfl⟩
  | @yes _ k _ _ hx h => subst h; exact .inr ⟨k, by simp [sl.ev hx]⟩
theorem Hi.run {n m : Nat} {a : Act} {lo : Option Operand} {l : Nat} (h : Hi S lo m l) (sl : Sl n a S) : (lo.map a.eval = none ∧ l = m) ∨ ∃ k, lo.map a.eval = some (.int k l) := by
  cases h with
  | no => exact .inl ⟨rfl, rfl⟩
  | @yes _ k _ _ _ hx h => subst h; exact .inr ⟨k, by simp [sl.ev hx]⟩

theorem V_slice {A : Option Addr} {len cap l h s : Nat} {lo hi : Option Operand} (ht : slB c.P T s = true) (hx : ev S x = some (.slice A len cap)) (hlo : Lo S lo l) (hhi : Hi S hi len h) (h1 : l ≤ h) (h2 : h ≤ cap) :
    Val c S L (.slice T x lo hi none) ty (.slice (cutA A l cap s) (h - l) (cap - l)) := fun a w st => by
  have e1 := st.sl.ev hx
  have hb := run_bounds (P := c.P) (w := w) (q := true) (len := len) h1 h2 (hlo.run st.sl) (hhi.run st.sl)
  unfold slB at ht
  split at ht <;> try (cases ht; done)
  rename_i e' hu
  simp only [ex, execOp, e1, Instr.sliceAt, Sem.run_bind, run_underlying hu, Result.andThen_ok, Instr.slice, Option.map_none, hb, run_sizeOf_sz ht]
  simp [cutA]
theorem cutA_some {b o l m s : Nat} (h : l < m) : cutA (some ⟨b, o, none⟩) l m s = some ⟨b, o + l * s, none⟩ := by
  unfold cutA; rw [if_neg (by omega)]; simp [add_none]
theorem cutA_zero {A : Option Addr} {m s : Nat} : cutA A 0 m s = A := by
  unfold cutA; split
  · rfl
  · cases A <;> simp [Addr.add]
theorem V_sliceP {b o n l h s : Nat} {lo hi : Option Operand} (ht : arB c.P T n s = true) (hx : ev S x = some (.pointer (some ⟨b, o, none⟩))) (hlo : Lo S lo l) (hhi : Hi S hi n h) (h1 : l ≤ h) (h2 : h ≤ n) :
    Val c S L (.slice T x lo hi none) ty (.slice (cutA (some ⟨b, o, none⟩) l n s) (h - l) (n - l)) := fun a w st => by
  have e1 := st.sl.ev hx
  have hb := run_bounds (P := c.P) (w := w) (q := false) (len := n) h1 h2 (hlo.run st.sl) (hhi.run st.sl)
  unfold arB at ht
  split at ht <;> try (cases ht; done)
  rename_i m e' hu
  simp only [Bool.and_eq_true, beq_iff_eq] at ht
  obtain ⟨rfl, ht⟩ := ht
  simp only [ex, execOp, e1, Instr.sliceAt, Sem.run_bind, run_underlying hu, Result.andThen_ok, Instr.sureAddr, Option.map_none, run_sizeOf_sz ht]
  simp only [Sem.run_pure, Result.andThen_ok, hb, cutA]
  split <;> rfl

/-! ### copied -/
theorem E_copy {bd o n dcap m scap : Nat} {A : Option Addr} {ys : List Value} {cs cs' : List Seg} {t : TypeId} (ht : slB c.P T 1 = true) (hx : ev S x = some (.slice (some ⟨bd, o, none⟩) n dcap)) (hy : ev S y = some (.slice A m scap))
    (hs : Sr c L 1 A m ys) (hu : Upd bd (.cells cs' t) L (.cells cs t) L') (hl : o + min m n ≤ (flat cs).length) (hf' : Fit cs → Fit cs') (hc : flat cs' = (flat cs).take o ++ ys.take n ++ (flat cs).drop (o + min m n)) :
    Eff c S L (.call ⟨.builtin .copy, #[x, y], #[T, T']⟩) ty (fun v M => v = .int .i64 (min m n : Nat) ∧ M = L') := fun a w st => by
  have ha : evs S (#[x, y] : Array Operand).toList = some [.slice (some ⟨bd, o, none⟩) n dcap, .slice A m scap] := by simp [evs, hx, hy]
  obtain ⟨hf, hb⟩ := st.hp.held _ hu.mem
  have hw := hs w st.hp
  have hw2 := hw.take (m := min m n) (by omega)
  have hyl : ys.length = m := by have := hw.1; omega
  have hyt : ys.take (min m n * 1) = ys.take n := by
    rw [Nat.mul_one]
    by_cases hmn : m ≤ n
    · rw [Nat.min_eq_left hmn, List.take_of_length_le (by omega), List.take_of_length_le (by omega)]
    · rw [Nat.min_eq_right (by omega)]
  rw [hyt] at hw2
  have hyl2 : (ys.take n).length = min m n := by have := hw2.1; omega
  obtain ⟨w', e, p1, p2, p3, p4, p5, p6⟩ := run_storeCells (P := c.P) o (ys.take n) 0 (flat cs) w hb hw2.2.1 (by omega)
  have hfc := hw2.first (P := c.P) (a := m) (b := scap)
  unfold slB at ht
  split at ht <;> try (cases ht; done)
  rename_i e' hu'
  refine ⟨_, w', L', .inl (run_builtin st ha fun cs => ?_), st.hp.upd hu p1 p2 p3 p4 p5 ⟨hf' hf, ?_⟩, rfl, rfl⟩
  · have hmin : Nat.min m n = min m n := rfl
    simp [builtin, Builtin.copy_, run_underlying hu', Builtin.lenOf, run_sizeOf_sz ht, hmin, hfc, e, goInt]
  · rw [p6, hc, hyl2]; simp

/-! ### slices as arrays -/
theorem V_s2p {b o n cap len s : Nat} (ht : arB c.P T n s = true) (h0 : n ≤ len) (hx : ev S x = some (.slice (some ⟨b, o, none⟩) len cap)) : Val c S L (.sliceToArrayPointer T x) ty (.pointer (some ⟨b, o, none⟩)) := fun a w st => by
  have e1 := st.sl.ev hx
  unfold arB at ht
  split at ht <;> try (cases ht; done)
  rename_i m e' hu
  simp only [Bool.and_eq_true, beq_iff_eq] at ht
  obtain ⟨rfl, ht⟩ := ht
  simp only [ex, execOp, e1, Instr.arrayAt, Sem.run_bind, run_underlying hu, Result.andThen_ok]
  simp [show ¬ len < m from by omega]
end
end Go.X

/- Slices out of elements, noughts behind a slice, strings out of bytes. -/
namespace Go.X
open Go.RowKit
section
variable {c : Cx} {S : Slots} {L L' Lr : List (Nat × Blk)} {ty : TypeId} {x y z : Operand} {T T' : TypeId}

theorem fill_seq {n : Nat} {a : Act} (sl : Sl n a S) : ∀ (ps : List (Nat × Operand)) (vs pre zs : List Value), ps.map (·.1) = List.range' pre.length ps.length → evs S (ps.map (·.2)) = some vs → (∀ v ∈ vs, one v = true) → zs.length = ps.length →
    Instr.fill (fun i => some (i * 1, 1)) (pre ++ zs).toArray (ps.map fun q => (q.1, a.eval q.2)) = some (pre ++ vs).toArray
  | [], vs, pre, zs, _, he, _, hz => by
    have : zs = [] := List.length_eq_zero_iff.1 (by simpa using hz)
    subst this
    simp [evs] at he
    subst he
    simp [Instr.fill]
  | p :: ps, vs, pre, zs, hi, he, h1, hz => by
    cases zs with
    | nil => simp at hz
    | cons z0 zs =>
      simp only [List.map_cons, evs] at he
      cases hv : ev S p.2 with
      | none => rw [hv] at he; simp at he
      | some v =>
        rw [hv] at he
        cases hr : evs S (ps.map (·.2)) with
        | none => rw [hr] at he; simp at he
        | some us =>
          rw [hr] at he
          simp at he
          subst he
          have hone := h1 v List.mem_cons_self
          have hc : v.cells = #[v] := by cases v <;> first | rfl | (simp [Go.X.one] at hone; done)
          simp only [List.map_cons, List.length_cons, List.range'_succ, List.cons.injEq] at hi
          have ih := fill_seq sl ps us (pre ++ [v]) zs (by rw [hi.2]; simp) hr (fun u hu => h1 u (List.mem_cons_of_mem _ hu)) (by simpa using hz)
          have hcond : (decide ((#[v] : Array Value).size ≠ 1) || decide (p.1 * 1 + (#[v] : Array Value).size > (pre ++ z0 :: zs).toArray.size)) = false := by
            rw [hi.1]; simp
          simp only [List.map_cons, Instr.fill, sl.ev hv, hc, hcond, Bool.false_eq_true, if_false]
          have e : Array.foldl (fun cs (q : Value × Nat) => cs.setIfInBounds (p.1 * 1 + q.2) q.1) (pre ++ z0 :: zs).toArray (#[v] : Array Value).zipIdx = (pre ++ [v] ++ zs).toArray := by
            simp [hi.1, Array.zipIdx]
          rw [e]
          rw [show pre ++ v :: us = pre ++ [v] ++ us by simp]
          exact ih

theorem E_bslice {n : Nat} {vs : List Value} {parts : Array (Nat × Operand)} (e by' : Nat) (ht : slE c.P T e by' = true) (hi : parts.toList.map (·.1) = List.range' 0 n) (hv : evs S (parts.toList.map (·.2)) = some vs) (h1 : ∀ v ∈ vs, one v = true) (hn : n ≤ 16777216) :
    Eff c S L (.buildSlice T n parts) ty fun v M => ∃ b, v = .slice (some ⟨b, 0, none⟩) n n ∧ M = (b, .cells [(n, vs), (n - n, [])] e) :: L := fun a w st => by
  obtain ⟨hu, i, z, hinf, hs1, h2, hz', h3⟩ := slE_open ht
  have hpl : parts.toList.length = n := by have := congrArg List.length hi; simpa using this
  have hvl : vs.length = n := by
    have : ∀ (l : List Operand) (us : List Value), evs S l = some us → us.length = l.length := by
      intro l
      induction l with
      | nil => intro us h; simp [evs] at h; subst h; rfl
      | cons o l ih =>
        intro us h
        simp only [evs] at h
        cases hq : ev S o with
        | none => rw [hq] at h; simp at h
        | some v =>
          rw [hq] at h
          cases hr : evs S l with
          | none => rw [hr] at h; simp at h
          | some us' => rw [hr] at h; simp at h; subst h; simp [ih us' hr]
    have := this _ _ hv; simpa [hpl] using this
  have hf := fill_seq (a := a) st.sl parts.toList vs [] ((List.range n).map fun j => z.cells[j % z.cells.size]!) (by simpa [hpl] using hi) hv h1 (by simp [hpl])
  have e0 : (parts.map fun (q : Nat × Operand) => (q.1, a.eval q.2)).toList = parts.toList.map fun q => (q.1, a.eval q.2) := by simp
  refine ⟨_, w.alloc (.cells vs.toArray e), _, .inl ?_, ?_, w.heap.size, rfl, rfl⟩
  · by_cases h0 : n = 0
    · subst h0
      have hv0 : vs = [] := List.length_eq_zero_iff.1 hvl
      subst hv0
      have hp0 : parts = #[] := by rw [← Array.toList_inj]; exact List.length_eq_zero_iff.1 hpl
      subst hp0
      simp [ex, execOp, Instr.buildSlice, run_underlying hu, sizeOf, typeInfo, hinf, Instr.fill, newRow]
      congr 2
      exact Array.toList_inj.1 (by simp [Array.toList_range])
    · have e1 : ((Array.range (n * 1)).map fun j => z.cells[j % z.cells.size]!) = ([] ++ (List.range n).map fun j => z.cells[j % z.cells.size]!).toArray := by
        rw [← Array.toList_inj]; simp [Array.toList_range]
      simp only [ex, execOp, Instr.buildSlice, Sem.run_bind, run_underlying hu, Result.andThen_ok, sizeOf, typeInfo, hinf, hs1, e0, run_program, Sem.run_pure]
      simp only [Nat.mul_one, show ¬ n > 2 ^ 24 from by omega, if_false, h0, Sem.run_bind, zeroValue, typeInfo, run_program, hinf, hz', Result.andThen_ok, Sem.run_pure]
      simp only [Nat.mul_one] at e1 hf
      rw [e1, hf]
      simp [newRow]
  · exact st.hp.alloc ⟨Fit.mk (by omega) (Fit.mk (by simp) Fit.nil), by simp [flat]⟩

theorem E_appendZ {n m cap b : Nat} {xs rest : List Value} {k : IntKind} (e by' : Nat) (zv : Value) (h1v : one zv = true) (ht : slE c.P T e by' = true) (hT' : inB' c.P T' .i64 = true) (hz : zeroIs c.P e [(1, [zv])]) (hx : ev S x = some (.slice (some ⟨b, 0, none⟩) n cap)) (hy : ev S y = some (.int k m))
    (hn : n ≤ cap) (hD : Del b (.cells [(n, xs), (cap - n, rest)] e) L Lr) (hb : (n + m) * by' ≤ 140737488355328) (hb2 : m * by' ≤ 140737488355328) (hl : n + m ≤ 9223372036854775807) :
    Eff c S L (.call ⟨.builtin .append, #[x, y], #[T, T']⟩) ty fun v M => ∃ b' cap' rest', n + m ≤ cap' ∧ v = .slice (some ⟨b', 0, none⟩) (n + m) cap' ∧ M = (b', .cells [(n + m, xs ++ List.replicate m zv), (cap' - (n + m), rest')] e) :: Lr := fun a w st => by
  obtain ⟨hu, i, z, hi, h1, h2, hz', h3⟩ := slE_open ht
  have hzc : z.cells = #[zv] := by
    obtain ⟨hz1, _⟩ := hz
    simp [hi, hz', flat] at hz1; exact hz1
  have hu2 : c.P.underlying T' = some (.int .i64) := by
    unfold inB' at hT'
    split at hT' <;> try (cases hT'; done)
    rename_i hq; rw [hq]; simp at hT'; rw [← hT']
  obtain ⟨hf, hh⟩ := st.hp.held _ hD.mem
  obtain ⟨hxl, hf2⟩ := hf.cons
  obtain ⟨hrl, _⟩ := hf2.cons
  have ha : evs S (#[x, y] : Array Operand).toList = some [.slice (some ⟨b, 0, none⟩) n cap, .int k m] := by simp [evs, hx, hy]
  have hflat : flat [(n, xs), (cap - n, rest)] = xs ++ rest := by simp [flat]
  rw [hflat] at hh
  have hw64 : IntKind.i64.wrap (m : Int) = m := IntWalk.i64_in _ (by omega)
  have hbig : ¬ ((m : Int) * (i.bytes : Int) > 281474976710656) := by
    rw [h2]
    have : ((m * by' : Nat) : Int) ≤ 140737488355328 := by omega
    rw [Int.natCast_mul] at this; omega
  have hzz : ∀ q, Builtin.zeroCells z.cells q = (List.replicate q zv).toArray := fun q => by
    rw [hzc, ← Array.toList_inj]
    apply List.ext_getElem
    · simp [Builtin.zeroCells]
    · intro j _ _; simp [Builtin.zeroCells, Nat.mod_one]
  by_cases hg : n + m ≤ cap
  · have hst := run_storeCells (P := c.P) n (List.replicate m zv) 0 (xs ++ rest) w hh (by simp; exact fun _ => h1v) (by simp; omega)
    obtain ⟨w', e', p1, p2, p3, p4, p5, p6⟩ := hst
    refine ⟨.slice (some ⟨b, 0, none⟩) (n + m) cap, w', _, .inl (run_builtin st ha fun cs => ?_), ?_, b, cap, rest.drop m, hg, rfl, rfl⟩
    · have hadd : ({ block := b, off := 0 } : Addr).add n = ⟨b, n, none⟩ := by rw [add_none]; simp
      have e' : (storeCells ⟨b, n, none⟩ (List.replicate m zv)).run c.P w = .ok () w' := e'
      have hneg : ¬ ((m : Int) < 0) := by omega
      by_cases h0 : m = 0
      · subst h0
        simp at e'
        simp [builtin, Builtin.append_, run_underlying hu, run_underlying hu2, sizeOf, typeInfo, hi, h1, asInt, asIntOf, show IntKind.i64.wrap 0 = 0 from by decide, hn, hadd, e']
      · simp [builtin, Builtin.append_, run_underlying hu, run_underlying hu2, sizeOf, typeInfo, hi, h1, asInt, asIntOf, hw64, hbig, hg, hneg, h0, hzz, zeroValue, hz', hadd, e']
    · refine HP.front hD fun A' B' hL _ => ?_
      subst hL
      refine st.hp.upd (Upd.mid A' B') p1 p2 p3 p4 p5 ⟨Fit.mk (by simp; omega) (Fit.mk (by simp; omega) Fit.nil), ?_⟩
      rw [p6]
      congr 2
      simp only [flat, List.flatMap_cons, List.flatMap_nil, List.append_nil, Nat.add_zero]
      rw [List.take_append_of_le_length (by omega), List.take_of_length_le (by omega), List.drop_append, List.drop_eq_nil_of_le (by omega)]
      simp [hxl]
  · have hge := grownCap_ge w (n + m) cap e
    have h63' : ¬ (9223372036854775807 < ((n : Int) + (m : Int))) := by omega
    have hfit := growslice_fits (need := n + m) (old := cap) (bytes := i.bytes) (by omega) (by rw [h2]; exact hb)
    have h48' : ¬ (281474976710656 < Builtin.nextslicecap (n + m) cap * i.bytes) := by omega
    have hfo := run_firstCells_some (P := c.P) w.drew i.size n ⟨b, 0, none⟩ n cap xs (by rw [h1]; omega) (fun j v hv => by
        rw [add_none, Nat.zero_add, show w.drew.cell? ⟨b, j, none⟩ = w.cell? ⟨b, j, none⟩ from rfl, cell_of_heap hh, List.getElem?_append_left (List.getElem?_eq_some_iff.1 hv).1]; exact hv)
    rw [h1] at hfo
    refine ⟨_, w.drew.alloc (.cells (xs.toArray ++ (List.replicate m zv).toArray ++ Builtin.zeroCells z.cells (grownCap w (n + m) cap e - (n + m))) e), _, .inl (run_builtin st ha fun cs => ?_), ?_, w.heap.size, grownCap w (n + m) cap e, (Builtin.zeroCells z.cells (grownCap w (n + m) cap e - (n + m))).toList, hge, rfl, rfl⟩
    · have hneg : ¬ ((m : Int) < 0) := by omega
      have hgd : ((Question.appendCap (n + m) cap e).cut (w.tape w.drawn (.appendCap (n + m) cap e))) = grownCap w (n + m) cap e := rfl
      simp [builtin, Builtin.append_, run_underlying hu, run_underlying hu2, sizeOf, typeInfo, zeroValue, hi, hz', h1, asInt, asIntOf, hw64, hbig, hg, hneg, h63', h48', Question.forced, hfo, newRow, show ¬ m = 0 from by omega, hgd, hzz]
    · refine ((st.hp.sub hD.sub).drew _).alloc ⟨Fit.mk (by simp; omega) (Fit.mk (by simp [size_zeroCells, h3]) Fit.nil), ?_⟩
      simp [flat]

/-! ### strings -/
end
end Go.X

/- More on regions that draw; handy forms for slices in a walk. -/
namespace Go.X
open Go.RowKit
section
variable {c : Cx} {Q : Post} {S S1 : Slots} {L L1 L' Lr : List (Nat × Blk)} {ops : Array Oper} {ty T T' : TypeId} {pos : String} {af : Array Edge} {op : Op} {p : Plan} {i j : Nat} {rest : List Oper} {x y : Operand}

theorem WO.val {t : Tmp} {v : Value} (ho : ops[i]? = some ⟨some t, op, ty, pos, af, none⟩) (hd : Nat.blt t c.n = true) (hLr : Lr.Sublist L) (hv : Val c S L op ty v) (h : WD c ops Q Lr p ((t, v) :: S) L) : WO c ops Q Lr i p S L := fun a w st => by
  have hr := hv a w st
  rw [← ex_eq a.eval (some t) op ty pos af none] at hr
  unfold wpOp
  simp only [ho]
  rw [if_pos (by simp [Region.wanted])]
  refine .inl ?_
  unfold Oper.wp
  rw [hr]
  exact ⟨st.hp.sub hLr, h _ w ⟨st.sl.put (blt_lt hd) v, st.hp⟩⟩

theorem WQ.perm {e : Exit} (hL : L'.Perm L) (h : WQ c Q e S L') : WQ c Q e S L := fun a w st => h a w ⟨st.sl, st.hp.perm hL⟩
/-- Several ways that come together again. -/
theorem W.join {x : Code} (h : WQ c Q .normal S1 L1 → W c x Q S L) (k : WQ c Q .normal S1 L1) : W c x Q S L := h k

theorem WL.append {n m cap cap2 b : Nat} {xs rs ys : List Value} {A : Option Addr} {t : Tmp} (e by' : Nat) (hd : Nat.blt t c.n = true) (ht : slE c.P T e by' = true) (hx : ev S x = some (.slice (some ⟨b, 0, none⟩) n cap)) (hy : ev S y = some (.slice A m cap2))
    (hn : n ≤ cap) (hD : Del b (.cells [(n, xs), (cap - n, rs)] e) L Lr) (hs : Sr c L 1 A m ys) (hb : (n + m) * by' ≤ 140737488355328) (hl : n + m ≤ 9223372036854775807)
    (k : ∀ b' cap' rs', n + m ≤ cap' → WL c ops Q rest ((t, .slice (some ⟨b', 0, none⟩) (n + m) cap') :: S) ((b', .cells [(n + m, xs ++ ys), (cap' - (n + m), rs')] e) :: Lr)) : WL c ops Q (⟨some t, .call ⟨.builtin .append, #[x, y], #[T, T]⟩, ty, pos, af, none⟩ :: rest) S L :=
  WL.eff (d := some t) hd (E_append e by' ht hx hy hn hD hs hb hl) (fun v M ⟨b', cap', rs', h1, hv, hM⟩ => by subst hv; subst hM; exact k b' cap' rs' h1)
theorem WL.appendN {m cap2 : Nat} {ys : List Value} {A : Option Addr} {t : Tmp} (e by' : Nat) (hd : Nat.blt t c.n = true) (ht : slE c.P T e by' = true) (hx : ev S x = some (.slice none 0 0)) (hy : ev S y = some (.slice A m cap2))
    (hs : Sr c L 1 A m ys) (h0 : 0 < m) (hb : m * by' ≤ 140737488355328) (hl : m ≤ 9223372036854775807)
    (k : ∀ b' cap' rs', m ≤ cap' → WL c ops Q rest ((t, .slice (some ⟨b', 0, none⟩) m cap') :: S) ((b', .cells [(m, ys), (cap' - m, rs')] e) :: L)) : WL c ops Q (⟨some t, .call ⟨.builtin .append, #[x, y], #[T, T]⟩, ty, pos, af, none⟩ :: rest) S L :=
  WL.eff (d := some t) hd (E_appendN e by' ht hx hy hs h0 hb hl) (fun v M ⟨b', cap', rs', h1, hv, hM⟩ => by subst hv; subst hM; exact k b' cap' rs' h1)
theorem WL.appendZ {n m cap b : Nat} {xs rs : List Value} {k' : IntKind} {p : Int} {t : Tmp} (e by' : Nat) (zv : Value) (h1v : one zv = true) (hd : Nat.blt t c.n = true) (ht : slE c.P T e by' = true) (hT' : inB' c.P T' .i64 = true) (hz : zeroIs c.P e [(1, [zv])]) (hx : ev S x = some (.slice (some ⟨b, 0, none⟩) n cap)) (hy : ev S y = some (.int k' p)) (hp : p = (m : Int))
    (hn : n ≤ cap) (hD : Del b (.cells [(n, xs), (cap - n, rs)] e) L Lr) (hb : (n + m) * by' ≤ 140737488355328) (hb2 : m * by' ≤ 140737488355328) (hl : n + m ≤ 9223372036854775807)
    (k : ∀ b' cap' rs', n + m ≤ cap' → WL c ops Q rest ((t, .slice (some ⟨b', 0, none⟩) (n + m) cap') :: S) ((b', .cells [(n + m, xs ++ List.replicate m zv), (cap' - (n + m), rs')] e) :: Lr)) : WL c ops Q (⟨some t, .call ⟨.builtin .append, #[x, y], #[T, T']⟩, ty, pos, af, none⟩ :: rest) S L :=
  WL.eff (d := some t) hd (E_appendZ e by' zv h1v ht hT' hz hx (by rw [hy, hp]) hn hD hb hb2 hl) (fun v M ⟨b', cap', rs', h1, hv, hM⟩ => by subst hv; subst hM; exact k b' cap' rs' h1)
theorem WL.make {n : Nat} {k1 k2 : IntKind} {p q : Int} {t : Tmp} (e by' : Nat) (zv : Value) (hd : Nat.blt t c.n = true) (ht : slE c.P T e by' = true) (hz : zeroIs c.P e [(1, [zv])]) (hx : ev S x = some (.int k1 p)) (hy : ev S y = some (.int k2 q)) (hp : p = (n : Int)) (hq : q = (n : Int)) (hb : n * by' ≤ 281474976710656) (hl : n ≤ 9223372036854775807)
    (k : ∀ b, WL c ops Q rest ((t, .slice (some ⟨b, 0, none⟩) n n) :: S) ((b, .cells [(n, List.replicate n zv), (n - n, [])] e) :: L)) : WL c ops Q (⟨some t, .makeSlice T x y, ty, pos, af, none⟩ :: rest) S L :=
  WL.eff (d := some t) hd (E_make (n := n) e by' zv ht hz (by rw [hx, hp]) (by rw [hy, hq]) hb hl) (fun v M ⟨b, hv, hM⟩ => by subst hv; subst hM; exact k b)
theorem WL.bslice {n : Nat} {vs : List Value} {parts : Array (Nat × Operand)} {t : Tmp} (e by' : Nat) (hd : Nat.blt t c.n = true) (ht : slE c.P T e by' = true) (hi : parts.toList.map (·.1) = List.range' 0 n) (hv : evs S (parts.toList.map (·.2)) = some vs) (h1 : ∀ v ∈ vs, one v = true) (hn : n ≤ 16777216)
    (k : ∀ b, WL c ops Q rest ((t, .slice (some ⟨b, 0, none⟩) n n) :: S) ((b, .cells [(n, vs), (n - n, [])] e) :: L)) : WL c ops Q (⟨some t, .buildSlice T n parts, ty, pos, af, none⟩ :: rest) S L :=
  WL.eff (d := some t) hd (E_bslice e by' ht hi hv h1 hn) (fun v M ⟨b, hv, hM⟩ => by subst hv; subst hM; exact k b)
theorem WL.copy {d : Option Tmp} {bd o n dcap m scap : Nat} {A : Option Addr} {ys : List Value} {cs : List Seg} (cs' : List Seg) {t : TypeId} (hd : inB c.n d = true) (ht : slB c.P T 1 = true) (hx : ev S x = some (.slice (some ⟨bd, o, none⟩) n dcap)) (hy : ev S y = some (.slice A m scap))
    (hs : Sr c L 1 A m ys) (hu : Upd bd (.cells cs' t) L (.cells cs t) L') (hl : o + min m n ≤ (flat cs).length) (hf' : Fit cs → Fit cs') (hc : flat cs' = (flat cs).take o ++ ys.take n ++ (flat cs).drop (o + min m n))
    (k : WL c ops Q rest (putS d (.int .i64 (min m n : Nat)) S) L') : WL c ops Q (⟨d, .call ⟨.builtin .copy, #[x, y], #[T, T']⟩, ty, pos, af, none⟩ :: rest) S L :=
  WL.eff hd (E_copy ht hx hy hs hu hl hf' hc) (fun v M ⟨hv, hM⟩ => by subst hv; subst hM; exact k)

theorem V_loadIv {b q n : Nat} {k : IntKind} {l : List Int} {r : List Seg} (j : Nat) (ht : scB c.P T = true) (hx : ev S x = some (.pointer (some ⟨b, q, none⟩))) (hA : At c L b ((n, iv k l) :: r)) (hq : q = j) (hj : j < l.length) : Val c S L (.load T x) ty (.int k (l.getD j 0)) := by
  subst hq
  refine V_load1 ht hx hA ?_
  simp only [flat, List.flatMap_cons]
  rw [List.getElem?_append_left (by rw [iv_len]; exact hj), iv_get hj]
theorem V_loadSrI {b o q n : Nat} {k : IntKind} {l : List Int} (j : Nat) (h : Sr c L 1 (some ⟨b, o, none⟩) n (iv k l)) (ht : scB c.P T = true) (hx : ev S x = some (.pointer (some ⟨b, q, none⟩))) (hq : q = o + j) (hj : j < l.length) : Val c S L (.load T x) ty (.int k (l.getD j 0)) :=
  V_loadSr h rfl ht hx hq (iv_get hj)
theorem E_storeIv {b q n : Nat} {k : IntKind} {l : List Int} {r : List Seg} {v : Int} {t : TypeId} (j : Nat) (ht : szB c.P T 1 = true) (hx : ev S x = some (.pointer (some ⟨b, q, none⟩))) (hy : ev S y = some (.int k v))
    (hu : Upd b (.cells ((n, iv k (l.set j v)) :: r) t) L (.cells ((n, iv k l) :: r) t) L') (hq : q = j) (hj : j < l.length) : Eff c S L (.store T x y) ty (fun u M => u = undef ∧ M = L') := by
  subst hq
  refine E_storeF ht hx hy rfl hu (by simp [flat, iv_len]; omega) (fun hf => ?_) ?_
  · obtain ⟨h1, h2⟩ := hf.cons
    exact Fit.mk (by rw [iv_len] at h1 ⊢; simpa using h1) h2
  · simp only [flat, List.flatMap_cons]
    rw [List.set_append_left _ _ (by rw [iv_len]; exact hj), iv_set]
theorem WL.storeIv {b q n : Nat} {k : IntKind} {l : List Int} {r : List Seg} {v : Int} {t : TypeId} (j : Nat) (ht : szB c.P T 1 = true) (hx : ev S x = some (.pointer (some ⟨b, q, none⟩))) (hy : ev S y = some (.int k v))
    (hu : Upd b (.cells ((n, iv k (l.set j v)) :: r) t) L (.cells ((n, iv k l) :: r) t) L') (hq : q = j) (hj : j < l.length) (K : WL c ops Q rest S L') : WL c ops Q (⟨none, .store T x y, ty, pos, af, none⟩ :: rest) S L :=
  WL.eff (d := none) rfl (E_storeIv j ht hx hy hu hq hj) (fun v M ⟨_, hM⟩ => by subst hM; exact K)

/-- A cut by its place and length. -/
theorem V_sliceN {b o len cap l h s : Nat} (n m : Nat) {lo hi : Option Operand} (ht : slB c.P T s = true) (hx : ev S x = some (.slice (some ⟨b, o, none⟩) len cap)) (hlo : Lo S lo l) (hhi : Hi S hi len h) (h1 : h = l + n) (h2 : cap = l + m) (h3 : n ≤ m) (h4 : 0 < m) :
    Val c S L (.slice T x lo hi none) ty (.slice (some ⟨b, o + l * s, none⟩) n m) := by
  have := V_slice (c := c) (L := L) (ty := ty) ht hx hlo hhi (by omega) (by omega)
  rwa [cutA_some (by omega), show h - l = n by omega, show cap - l = m by omega] at this
theorem V_slice0 {A : Option Addr} {len cap h s : Nat} {hi : Option Operand} (ht : slB c.P T s = true) (hx : ev S x = some (.slice A len cap)) (hhi : Hi S hi len h) (h2 : h ≤ cap) :
    Val c S L (.slice T x none hi none) ty (.slice A h cap) := by
  have := V_slice (c := c) (L := L) (ty := ty) ht hx .no hhi (by omega) (by omega)
  rwa [cutA_zero, Nat.sub_zero, Nat.sub_zero] at this
theorem V_slicePN {b o len l h s : Nat} (n m : Nat) {lo hi : Option Operand} (ht : arB c.P T len s = true) (hx : ev S x = some (.pointer (some ⟨b, o, none⟩))) (hlo : Lo S lo l) (hhi : Hi S hi len h) (h1 : h = l + n) (h2 : len = l + m) (h3 : n ≤ m) (h4 : 0 < m) :
    Val c S L (.slice T x lo hi none) ty (.slice (some ⟨b, o + l * s, none⟩) n m) := by
  have := V_sliceP (c := c) (L := L) (ty := ty) ht hx hlo hhi (by omega) (by omega)
  rwa [cutA_some (by omega), show h - l = n by omega, show len - l = m by omega] at this

theorem Sr.own {b n r : Nat} {xs rs : List Value} (h : At c L b [(n, xs), (r, rs)]) (h1 : ∀ v ∈ xs, one v = true) : Sr c L 1 (some ⟨b, 0, none⟩) n xs := fun w hp => by
  have hw := h.hp hp
  obtain ⟨hl, hf⟩ := hw.1.cons
  refine hw.cells ?_ (by simp [flat]; omega) h1
  simp [flat, ← hl]
theorem Sr.all {b n : Nat} {xs : List Value} (h : At c L b [(n, xs)]) (h1 : ∀ v ∈ xs, one v = true) : Sr c L 1 (some ⟨b, 0, none⟩) n xs := fun w hp => by
  have hw := h.hp hp
  obtain ⟨hl, hf⟩ := hw.1.cons
  refine hw.cells ?_ (by simp [flat]; omega) h1
  simp [flat, ← hl]
/-- A part of an own slice. -/
theorem Sr.part {b n r o m : Nat} {xs rs : List Value} (h : At c L b [(n, xs), (r, rs)]) (h1 : ∀ v ∈ xs, one v = true) (hm : o + m ≤ n) : Sr c L 1 (some ⟨b, o, none⟩) m ((xs.drop o).take m) := fun w hp => by
  have hw := h.hp hp
  obtain ⟨hl, hf⟩ := hw.1.cons
  refine hw.cells ?_ (by simp [flat]; omega) (fun v hv => h1 v (List.drop_subset _ _ (List.take_subset _ _ hv)))
  simp only [flat, List.flatMap_cons, List.flatMap_nil, List.append_nil, Nat.mul_one]
  rw [List.drop_append_of_le_length (by omega), List.take_append_of_le_length (by simp; omega)]
theorem SrW.part {w : World} {b o n l m : Nat} {xs : List Value} (h : SrW w 1 (some ⟨b, o, none⟩) n xs) (hm : l + m ≤ n) : SrW w 1 (some ⟨b, o + l, none⟩) m ((xs.drop l).take m) := by
  refine ⟨by have := h.1; simp; omega, fun v hv => h.2.1 v (List.drop_subset _ _ (List.take_subset _ _ hv)), fun j v hv => ⟨b, o + l, rfl, ?_⟩⟩
  rw [List.getElem?_take] at hv
  split at hv <;> try (cases hv; done)
  rw [List.getElem?_drop] at hv
  obtain ⟨b', o', e, hc⟩ := h.2.2 _ v hv
  injection e with e; injection e with e1 e2; subst e1; subst e2
  rwa [Nat.add_assoc]
end
end Go.X

/- Arrays built, and read as wholes. -/
namespace Go.X
open Go.RowKit
/-- The same cells, parted otherwise. -/
theorem HP.recut {w0 w : World} {O : List Nat} {L : List (Nat × Blk)} {b : Nat} {cs cs' : List Seg} {t : TypeId} (h : HP w0 w O ((b, .cells cs t) :: L)) (hf : flat cs = flat cs') (hc : Fit cs') : HP w0 w O ((b, .cells cs' t) :: L) := by
  refine ⟨h.os, h.tape, h.output, h.size, h.keep, fun p hp => ?_, fun p hp => ?_, h.nodup⟩
  · rcases List.mem_cons.1 hp with rfl | hp
    · have := h.held (b, .cells cs t) List.mem_cons_self
      exact ⟨hc, by rw [← hf]; exact this.2⟩
    · exact h.held p (List.mem_cons_of_mem _ hp)
  · rcases List.mem_cons.1 hp with rfl | hp
    · exact h.own (b, .cells cs t) List.mem_cons_self
    · exact h.own p (List.mem_cons_of_mem _ hp)
section
variable {c : Cx} {S : Slots} {L : List (Nat × Blk)} {ty T T' : TypeId} {x y : Operand}

theorem V_idxA1 {i : Operand} {b n : Nat} {k : IntKind} {p : Int} (j : Nat) (ht : arB c.P T n 1 = true) (hx : ev S x = some (.pointer (some ⟨b, 0, none⟩))) (hi : ev S i = some (.int k p)) (hp : p = (j : Int)) (hj : j < n) : Val c S L (.indexAddr T x i) ty (.pointer (some ⟨b, j, none⟩)) := by
  have := V_indexAddrA (c := c) (L := L) (ty := ty) n 1 ht hx hi (by omega) (by omega)
  rwa [show 0 + p.toNat * 1 = j by omega] at this
theorem V_idxS1 {i : Operand} {b len cap : Nat} {k : IntKind} {p : Int} (j : Nat) (ht : slB c.P T 1 = true) (hx : ev S x = some (.slice (some ⟨b, 0, none⟩) len cap)) (hi : ev S i = some (.int k p)) (hp : p = (j : Int)) (hj : j < len) : Val c S L (.indexAddr T x i) ty (.pointer (some ⟨b, j, none⟩)) := by
  have := V_indexAddrS (c := c) (L := L) (ty := ty) 1 ht hx hi (by omega) (by omega)
  rwa [show 0 + p.toNat * 1 = j by omega] at this
theorem V_buildA {zs ds : List Seg} {parts : Array (Nat × Operand)} (n s : Nat) (hT : arB c.P T n s = true) (hz : zeroIs c.P T zs) (hb : Bld S (fun i k m => k = i * s ∧ m = s) parts.toList zs ds) : Val c S L (.build T parts) ty (AG ds) := fun a w st => by
  obtain ⟨z, h1, h2⟩ := run_zeroValue (w := w) hz
  unfold arB at hT
  split at hT <;> try (cases hT; done)
  rename_i m e' hu
  simp only [Bool.and_eq_true, beq_iff_eq] at hT
  obtain ⟨rfl, hs⟩ := hT
  have hfill := hb.fill (p := fun i => some (i * s, s)) (fun i k n h => by obtain ⟨rfl, rfl⟩ := h; rfl) st.sl hz.2
  have e : (parts.map fun (i, x) => (i, a.eval x)).toList = parts.toList.map fun q => (q.1, a.eval q.2) := by simp
  simp only [ex, execOp, Instr.build]
  simp only [Sem.run_bind, h1, Result.andThen_ok, run_underlying hu, h2, e, run_sizeOf_sz hs, hfill.1]
  simp [AG]

theorem V_buildI {zs : List Seg} {vs : List Value} {parts : Array (Nat × Operand)} (n : Nat) (hT : arB c.P T n 1 = true) (hz : zeroIs c.P T zs) (hzl : (flat zs).length = n) (hi : parts.toList.map (·.1) = List.range' 0 n) (hv : evs S (parts.toList.map (·.2)) = some vs) (h1 : ∀ v ∈ vs, one v = true) :
    Val c S L (.build T parts) ty (AG [(n, vs)]) := fun a w st => by
  obtain ⟨z, hz1, hz2⟩ := run_zeroValue (w := w) hz
  unfold arB at hT
  split at hT <;> try (cases hT; done)
  rename_i m e' hu
  simp only [Bool.and_eq_true, beq_iff_eq] at hT
  obtain ⟨rfl, hs⟩ := hT
  have hpl : parts.toList.length = m := by have := congrArg List.length hi; simpa using this
  have hfill := fill_seq (a := a) st.sl parts.toList vs [] (flat zs) (by simpa [hpl] using hi) hv h1 (by omega)
  have e : (parts.map fun (i, x) => (i, a.eval x)).toList = parts.toList.map fun q => (q.1, a.eval q.2) := by simp
  simp only [List.nil_append] at hfill
  simp only [ex, execOp, Instr.build]
  simp only [Sem.run_bind, hz1, Result.andThen_ok, run_underlying hu, hz2, e, run_sizeOf_sz hs, hfill]
  simp [AG, flat]

/-- n cells from a place on, as one. -/
theorem V_loadAF {b o : Nat} {cs ds : List Seg} (n : Nat) (ht : agB c.P T n = true) (hx : ev S x = some (.pointer (some ⟨b, o, none⟩))) (hA : At c L b cs) (hv : ((flat cs).drop o).take n = flat ds) (hl : o + n ≤ (flat cs).length) : Val c S L (.load T x) ty (AG ds) := fun a w st => by
  have e1 := st.sl.ev hx
  obtain ⟨hf, t, fz, hb⟩ := hA.here st
  have hL := run_loadCells (P := c.P) hb o n 0 #[] (by omega)
  simp only [Nat.add_zero, hv] at hL
  simp [ex, execOp, e1, Instr.loadAt, Instr.sureAddr, loadVar, run_isAgg_ag ht, run_sizeOf_sz (sz_of_ag ht), loadCells, hL, AG]

theorem iv_kd {k : IntKind} {l : List Int} {n : Nat} (h : l.length = n) : (flat [(n, iv k l)]).map kd = List.replicate n (kdOf k) := by
  subst h
  have : ∀ l : List Int, (iv k l).map kd = List.replicate l.length (kdOf k) := fun l => by
    induction l with
    | nil => rfl
    | cons a l ih => simp only [iv, List.map_cons, List.length_cons, List.replicate_succ, List.cons.injEq] at ih ⊢; exact ⟨by cases k <;> rfl, ih⟩
  simpa [flat] using this l
theorem lEq_iv {k : IntKind} : ∀ {l l' : List Int}, l.length = l'.length → lEq (iv k l) (iv k l') = decide (l = l')
  | [], [], _ => by simp [iv, lEq]
  | a :: l, [], h => by simp at h
  | [], b :: l', h => by simp at h
  | a :: l, b :: l', h => by
    have ih := lEq_iv (k := k) (l := l) (l' := l') (by simpa using h)
    simp only [iv, List.map_cons, lEq, cEq] at ih ⊢
    rw [ih]
    by_cases h1 : a = b <;> by_cases h2 : l = l' <;> simp [h1, h2]
theorem V_eqlI (m n : Nat) (k : IntKind) {l l' : List Int} (hm : Nat.ble m 9000 = true) (hs : shape c.P m T = some (List.replicate n (kdOf k))) (hag : aggT c.P T = true) (hg : c.P.eqGuardType c.P.depth T = false) (hx : ev S x = some (AG [(n, iv k l)])) (hy : ev S y = some (AG [(n, iv k l')])) (h1 : l.length = n) (h2 : l'.length = n) :
    Val c S L (.binOp .eql T x y T') ty (.bool (decide (l = l'))) := by
  have := V_eqlA (c := c) (S := S) (L := L) (ty := ty) (T' := T') m _ hm hs hag hg hx hy (iv_kd h1) (iv_kd h2)
  rwa [show flat [(n, iv k l)] = iv k l by simp [flat], show flat [(n, iv k l')] = iv k l' by simp [flat], lEq_iv (by omega)] at this
def u8sB (P : Program) (t : TypeId) : Bool := match P.underlying t with
  | some (.slice e) => (match P.underlying e with | some (.int .u8) => true | _ => false)
  | _ => false
/-- Bytes out of a constant string: they are marked. -/
theorem E_mark {L' : List (Nat × Blk)} {b n cap : Nat} {cs : List Seg} {t : TypeId} (ht : u8sB c.P T = true) (hx : ev S x = some (.slice (some ⟨b, 0, none⟩) n cap)) (hu : Upd b (.ro cs) L (.cells cs t) L') :
    Eff c S L (.convert T T x) ty fun v M => v = .slice (some ⟨b, 0, none⟩) n cap ∧ M = L' := fun a w st => by
  have e1 := st.sl.ev hx
  obtain ⟨hf, hh⟩ := st.hp.held _ hu.mem
  unfold u8sB at ht
  split at ht <;> try (cases ht; done)
  rename_i e hu1
  split at ht <;> try (cases ht; done)
  rename_i hu2
  have hh' : w.heap[b]? = some (.cells (flat cs).toArray t (0, 0)) := hh
  refine ⟨_, w.freeze ⟨b, (flat cs).length, none⟩ 1, L', .inl ?_, st.hp.upd hu rfl rfl rfl ?_ ?_ ⟨hf, t, ((flat cs).length, (flat cs).length + 1), ?_⟩, rfl, rfl⟩
  · have hsh : (Go.shape b).run c.P w = .ok (some (t, (flat cs).length)) w := by
      simp [Go.shape, Sem.run, World.shape?, hh']
    simp [ex, execOp, e1, convert, run_underlying hu1, run_underlying hu2, markStringish, hsh]
  · simp [World.freeze]
  · intro k hk
    simp only [World.freeze, Nat.one_ne_zero, if_false, Array.getElem?_modify]
    rw [if_neg (fun h => hk h.symm)]
  · simp only [World.freeze, Nat.one_ne_zero, if_false, Array.getElem?_modify, hh']
    simp
end
end Go.X

/- A row's arguments that are arrays of integers. -/
namespace Go.X
open Go.RowKit Go.WideShapes Go.ChangeShapes
variable {H : Type} {enc : TypeId × Value → H} {P : Program} {W : World}
end Go.X
