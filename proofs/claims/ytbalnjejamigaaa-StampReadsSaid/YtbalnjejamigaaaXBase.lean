/- The base of our own walk: a state of slots and tracked blocks, and the rules for code, regions, loops and calls over it. -/
import Derived.WalkKit
import Derived.OrdersHeld
set_option linter.unusedVariables false
set_option linter.unusedSimpArgs false
namespace Go.X

theorem blt_lt {a b : Nat} (h : Nat.blt a b = true) : a < b := Nat.le_of_ble_eq_true h

abbrev Seg := Nat × List Value
def flat (c : List Seg) : List Value := c.flatMap (·.2)
def Fit (c : List Seg) : Prop := ∀ s ∈ c, s.2.length = s.1

/-- A tracked block: cells in segments, of an element type; or another object. -/
inductive Blk where
  | cells (c : List Seg) (t : TypeId)
  | ro (c : List Seg)
  | obj (o : Obj)

def Blk.Is : Blk → Option Obj → Prop
  | .cells c t, o => Fit c ∧ o = some (.cells (flat c).toArray t (0, 0))
  | .ro c, o => Fit c ∧ ∃ t fz, o = some (.cells (flat c).toArray t fz)
  | .obj x, o => (∀ c t f, x ≠ .cells c t f) ∧ o = some x

/-- Since the world w0: what is in O may have changed; L tells blocks of O, or new ones. -/
structure HP (w0 w : World) (O : List Nat) (L : List (Nat × Blk)) : Prop where
  os : w.os = w0.os
  tape : w.tape = w0.tape
  output : w.output = w0.output
  size : w0.heap.size ≤ w.heap.size
  keep : ∀ b, b < w0.heap.size → b ∉ O → w.heap[b]? = w0.heap[b]?
  held : ∀ p ∈ L, p.2.Is w.heap[p.1]?
  own : ∀ p ∈ L, p.1 ∈ O ∨ w0.heap.size ≤ p.1
  nodup : (L.map (·.1)).Nodup

abbrev Slots := List (Nat × Value)
def slot (S : Slots) (t : Nat) : Option Value := S.lookup t

structure Sl (n : Nat) (a : Act) (S : Slots) : Prop where
  size : a.tmps.size = n
  defers : a.defers = []
  get : ∀ t v, slot S t = some v → a.tmps[t]? = some v

def ev (S : Slots) : Operand → Option Value
  | .tmp t => slot S t
  | .const v => some v
  | .global g => some (.pointer (some ⟨g, 0, none⟩))
  | .func f => some (.func (.func f) #[] #[])

structure Cx where
  P : Program
  n : Nat
  w0 : World
  O : List Nat

structure St (c : Cx) (S : Slots) (L : List (Nat × Blk)) (a : Act) (w : World) : Prop where
  sl : Sl c.n a S
  hp : HP c.w0 w c.O L

abbrev Post := Exit → Act → World → Prop

def W (c : Cx) (x : Code) (Q : Post) (S : Slots) (L : List (Nat × Blk)) : Prop := ∀ a w, St c S L a w → x.wp c.P Q a w
def WQ (c : Cx) (Q : Post) (e : Exit) (S : Slots) (L : List (Nat × Blk)) : Prop := ∀ a w, St c S L a w → Q e a w
def WL (c : Cx) (ops : Array Oper) (Q : Post) (l : List Oper) (S : Slots) (L : List (Nat × Blk)) : Prop := ∀ a w, St c S L a w → wpList c.P ops Q l a w

/-! ### the state -/
theorem HP.refl (w : World) (O : List Nat) : HP w w O [] :=
  ⟨rfl, rfl, rfl, Nat.le_refl _, fun _ _ _ => rfl, (fun _ h => by cases h), (fun _ h => by cases h), List.nodup_nil⟩

theorem HP.drew {w0 w : World} {O : List Nat} {L : List (Nat × Blk)} (h : HP w0 w O L) (n : Nat) : HP w0 { w with drawn := n } O L :=
  ⟨h.os, h.tape, h.output, h.size, h.keep, h.held, h.own, h.nodup⟩

theorem HP.sub {w0 w : World} {O : List Nat} {L L' : List (Nat × Blk)} (h : HP w0 w O L) (hs : L'.Sublist L) : HP w0 w O L' :=
  ⟨h.os, h.tape, h.output, h.size, h.keep, fun p hp => h.held p (hs.subset hp), fun p hp => h.own p (hs.subset hp), h.nodup.sublist (hs.map _)⟩

theorem HP.perm {w0 w : World} {O : List Nat} {L L' : List (Nat × Blk)} (h : HP w0 w O L) (hs : L'.Perm L) : HP w0 w O L' :=
  ⟨h.os, h.tape, h.output, h.size, h.keep, fun p hp => h.held p (hs.subset hp), fun p hp => h.own p (hs.subset hp), (hs.map _).nodup_iff.2 h.nodup⟩

theorem Blk.Is.some {k : Blk} {o : Option Obj} (h : k.Is o) : ∃ x, o = some x := by
  cases k with
  | cells c t => exact ⟨_, h.2⟩
  | ro c => obtain ⟨_, t, fz, h⟩ := h; exact ⟨_, h⟩
  | obj x => exact ⟨_, h.2⟩

theorem HP.lt {w0 w : World} {O : List Nat} {L : List (Nat × Blk)} (h : HP w0 w O L) {p : Nat × Blk} (hp : p ∈ L) : p.1 < w.heap.size := by
  obtain ⟨x, hx⟩ := (h.held p hp).some
  exact (Array.getElem?_eq_some_iff.1 hx).1

theorem alloc_heap (w : World) (o : Obj) (k : Nat) : (w.alloc o).heap[k]? = if k = w.heap.size then some o else w.heap[k]? := by
  show (w.heap.push o)[k]? = _
  rw [Array.getElem?_push]

/-- A new block. -/
theorem HP.alloc {w0 w : World} {O : List Nat} {L : List (Nat × Blk)} (h : HP w0 w O L) {o : Obj} {k : Blk} (hk : k.Is (some o)) :
    HP w0 (w.alloc o) O ((w.heap.size, k) :: L) := by
  refine ⟨h.os, h.tape, h.output, ?_, ?_, ?_, ?_, ?_⟩
  · have := h.size; simp; omega
  · intro b hb hO
    rw [alloc_heap, if_neg (by have := h.size; omega)]
    exact h.keep b hb hO
  · intro p hp
    rw [alloc_heap]
    cases hp with
    | head => simpa using hk
    | tail _ hp => rw [if_neg (by have := h.lt hp; omega)]; exact h.held p hp
  · intro p hp
    cases hp with
    | head => exact .inr h.size
    | tail _ hp => exact h.own p hp
  · simp only [List.map_cons, List.nodup_cons]
    refine ⟨fun hm => ?_, h.nodup⟩
    obtain ⟨p, hp, he⟩ := List.mem_map.1 hm
    have := h.lt hp
    omega

/-- One block gets another content. -/
inductive Upd (b : Nat) (k : Blk) : List (Nat × Blk) → Blk → List (Nat × Blk) → Prop where
  | here (k0 : Blk) (l : List (Nat × Blk)) : Upd b k ((b, k0) :: l) k0 ((b, k) :: l)
  | there (x : Nat × Blk) {l l' : List (Nat × Blk)} {k0 : Blk} (h : Upd b k l k0 l') : Upd b k (x :: l) k0 (x :: l')

theorem Upd.mem {b : Nat} {k k0 : Blk} {l l' : List (Nat × Blk)} (h : Upd b k l k0 l') : (b, k0) ∈ l := by
  induction h with
  | here => exact List.mem_cons_self
  | there x _ ih => exact List.mem_cons_of_mem _ ih

theorem Upd.keys {b : Nat} {k k0 : Blk} {l l' : List (Nat × Blk)} (h : Upd b k l k0 l') : l'.map (·.1) = l.map (·.1) := by
  induction h with
  | here => rfl
  | there x _ ih => simp [ih]

theorem Upd.of_mem {b : Nat} {k k0 : Blk} {l l' : List (Nat × Blk)} (h : Upd b k l k0 l') (hn : (l.map (·.1)).Nodup) : ∀ p ∈ l', (p.1 = b ∧ p.2 = k) ∨ (p.1 ≠ b ∧ p ∈ l) := by
  induction h with
  | here k0 l =>
    intro p hp
    simp only [List.map_cons, List.nodup_cons] at hn
    cases hp with
    | head => exact .inl ⟨rfl, rfl⟩
    | tail _ hp => exact .inr ⟨fun e => hn.1 (by rw [← e]; exact List.mem_map.2 ⟨p, hp, rfl⟩), List.mem_cons_of_mem _ hp⟩
  | there x h ih =>
    intro p hp
    simp only [List.map_cons, List.nodup_cons] at hn
    cases hp with
    | head => exact .inr ⟨fun e => hn.1 (by rw [e]; exact List.mem_map.2 ⟨_, h.mem, rfl⟩), List.mem_cons_self⟩
    | tail _ hp =>
      rcases ih hn.2 p hp with h1 | ⟨h1, h2⟩
      · exact .inl h1
      · exact .inr ⟨h1, List.mem_cons_of_mem _ h2⟩

/-- A world that differs from another one in one tracked block alone. -/
theorem HP.upd {w0 w w' : World} {O : List Nat} {L L' : List (Nat × Blk)} (h : HP w0 w O L) {b : Nat} {k k0 : Blk} (hu : Upd b k L k0 L')
    (hos : w'.os = w.os) (ht : w'.tape = w.tape) (ho : w'.output = w.output) (hs : w'.heap.size = w.heap.size) (hb : ∀ i, i ≠ b → w'.heap[i]? = w.heap[i]?) (hk : k.Is w'.heap[b]?) : HP w0 w' O L' := by
  refine ⟨hos.trans h.os, ht.trans h.tape, ho.trans h.output, by rw [hs]; exact h.size, ?_, ?_, ?_, ?_⟩
  · intro i hi hO
    rw [hb i, h.keep i hi hO]
    intro e; subst e
    rcases h.own _ hu.mem with h1 | h1
    · exact hO h1
    · simp at h1; omega
  · intro p hp
    rcases hu.of_mem h.nodup p hp with ⟨h1, h2⟩ | ⟨h1, h2⟩
    · rw [h1, h2]; exact hk
    · rw [hb _ h1]; exact h.held p h2
  · intro p hp
    have : p.1 ∈ L'.map (·.1) := List.mem_map.2 ⟨p, hp, rfl⟩
    rw [hu.keys] at this
    obtain ⟨q, hq, he⟩ := List.mem_map.1 this
    rw [← he]; exact h.own q hq
  · rw [hu.keys]; exact h.nodup

/-! ### slots -/
theorem Sl.put {n : Nat} {a : Act} {S : Slots} (h : Sl n a S) {d : Nat} (hd : d < n) (v : Value) : Sl n (a.put (some d) v) ((d, v) :: S) := by
  refine ⟨by simp [Act.put, h.size], h.defers, fun t u ht => ?_⟩
  simp only [slot, List.lookup_cons] at ht
  simp only [Act.put]
  by_cases e : t = d
  · subst e
    simp at ht
    subst ht
    simp [h.size, hd]
  · rw [Array.getElem?_setIfInBounds_ne (by omega)]
    have : (t == d) = false := by simpa using e
    rw [this] at ht
    exact h.get t u ht

theorem Sl.put_none {n : Nat} {a : Act} {S : Slots} (h : Sl n a S) (v : Value) : Sl n (a.put none v) S := h

theorem Sl.ev {n : Nat} {a : Act} {S : Slots} (h : Sl n a S) {x : Operand} {v : Value} (hx : ev S x = some v) : a.eval x = v := by
  cases x with
  | tmp t =>
    have := h.get t v hx
    simp [Act.eval, Array.getD_eq_getD_getElem?, this]
  | const u => exact Option.some.inj hx
  | global g => exact Option.some.inj hx
  | func f => exact Option.some.inj hx

theorem Sl.sub {n : Nat} {a : Act} {S S' : Slots} (h : Sl n a S) (hs : ∀ t v, slot S' t = some v → slot S t = some v) : Sl n a S' :=
  ⟨h.size, h.defers, fun t v ht => h.get t v (hs t v ht)⟩

/-- Only the slots that are named. -/
def pick (S : Slots) : List Nat → Slots
  | [] => []
  | t :: r => match slot S t with
    | some v => (t, v) :: pick S r
    | none => pick S r

theorem pick_sub (S : Slots) : ∀ (ks : List Nat) t v, slot (pick S ks) t = some v → slot S t = some v
  | [], t, v, h => by simp [pick, slot] at h
  | k :: r, t, v, h => by
    unfold pick at h
    split at h
    · rename_i u hu
      simp only [slot, List.lookup_cons] at h
      by_cases e : t = k
      · subst e; simp at h; rw [hu, h]
      · have : (t == k) = false := by simpa using e
        rw [this] at h
        exact pick_sub S r t v h
    · exact pick_sub S r t v h

/-! ### rules for code -/
section
variable {c : Cx} {Q : Post} {S S' : Slots} {L L' : List (Nat × Blk)}

theorem W.pick (ks : List Nat) {x : Code} (hS : pick S ks = S') (h : W c x Q S' L) : W c x Q S L :=
  fun a w st => h a w ⟨st.sl.sub (hS ▸ pick_sub S ks), st.hp⟩
theorem W.sub {x : Code} (hL : L'.Sublist L) (h : W c x Q S L') : W c x Q S L := fun a w st => h a w ⟨st.sl, st.hp.sub hL⟩
theorem W.perm {x : Code} (hL : L'.Perm L) (h : W c x Q S L') : W c x Q S L := fun a w st => h a w ⟨st.sl, st.hp.perm hL⟩

theorem W.skip (h : WQ c Q .normal S L) : W c .skip Q S L := fun a w st => wp_skip (h a w st)
theorem W.exit {id : Nat} (h : WQ c Q (.exit id) S L) : W c (.exit id) Q S L := fun a w st => wp_exit (h a w st)
theorem W.ret (h : WQ c Q .ret S L) : W c .ret Q S L := fun a w st => wp_ret (h a w st)
theorem W.seq {x y : Code} (h : W c x (Exit.then (y.wp c.P Q) Q) S L) : W c (.seq x y) Q S L := fun a w st => wp_seq (h a w st)
theorem W.block {id : Nat} {x : Code} (h : W c x (Exit.inBlock id Q) S L) : W c (.block id x) Q S L := fun a w st => wp_block (h a w st)

theorem W.cond {t : Operand} {x y : Code} {b : Bool} (hc : ev S t = some (.bool b)) (h1 : b = true → W c x Q S L) (h2 : b = false → W c y Q S L) : W c (.cond t x y) Q S L :=
  fun a w st => wp_cond_split (st.sl.ev hc) (fun e => h1 e a w st) (fun e => h2 e a w st)
theorem W.cond_dec {t : Operand} {x y : Code} {p : Prop} [Decidable p] (hc : ev S t = some (.bool (decide p))) (h1 : p → W c x Q S L) (h2 : ¬ p → W c y Q S L) : W c (.cond t x y) Q S L :=
  W.cond hc (fun e => h1 (of_decide_eq_true e)) (fun e => h2 (of_decide_eq_false e))
theorem W.cond_true {t : Operand} {x y : Code} {b : Bool} (hc : ev S t = some (.bool b)) (hb : b = true) (h1 : W c x Q S L) : W c (.cond t x y) Q S L :=
  W.cond hc (fun _ => h1) (fun e => by rw [hb] at e; cases e)
theorem W.cond_false {t : Operand} {x y : Code} {b : Bool} (hc : ev S t = some (.bool b)) (hb : b = false) (h1 : W c y Q S L) : W c (.cond t x y) Q S L :=
  W.cond hc (fun e => by rw [hb] at e; cases e) (fun _ => h1)

theorem WQ.then {y : Code} (h : W c y Q S L) : WQ c (Exit.then (y.wp c.P Q) Q) .normal S L := h
theorem WQ.then_exit {K : Act → World → Prop} {id : Nat} (h : WQ c Q (.exit id) S L) : WQ c (Exit.then K Q) (.exit id) S L := h
theorem WQ.then_ret {K : Act → World → Prop} (h : WQ c Q .ret S L) : WQ c (Exit.then K Q) .ret S L := h
theorem WQ.block_normal {id : Nat} (h : WQ c Q .normal S L) : WQ c (Exit.inBlock id Q) .normal S L := h
theorem WQ.block_ret {id : Nat} (h : WQ c Q .ret S L) : WQ c (Exit.inBlock id Q) .ret S L := h
theorem WQ.block_hit {id : Nat} (h : WQ c Q .normal S L) : WQ c (Exit.inBlock id Q) (.exit id) S L := fun a w st => by
  simp only [Exit.inBlock, if_true]; exact h a w st
theorem WQ.block_miss {id id' : Nat} (hne : id' ≠ id) (h : WQ c Q (.exit id') S L) : WQ c (Exit.inBlock id Q) (.exit id') S L := fun a w st => by
  simp only [Exit.inBlock, if_neg hne]; exact h a w st
theorem WQ.pick (ks : List Nat) {e : Exit} (hS : pick S ks = S') (h : WQ c Q e S' L) : WQ c Q e S L :=
  fun a w st => h a w ⟨st.sl.sub (hS ▸ pick_sub S ks), st.hp⟩
theorem WQ.sub {e : Exit} (hL : L'.Sublist L) (h : WQ c Q e S L') : WQ c Q e S L := fun a w st => h a w ⟨st.sl, st.hp.sub hL⟩

/-- A round is over: what holds at the next one's head. -/
def Again (c : Cx) {σ : Type} (I : σ → Prop) (Sf : σ → Slots) (Lf : σ → List (Nat × Blk)) (μ : σ → Nat) (s : σ) : Act → World → Prop := fun a w => ∃ s', I s' ∧ μ s' < μ s ∧ St c (Sf s') (Lf s') a w

/-- A loop: what holds at each round's head, over a state of the prover's own. -/
theorem W.loop {σ : Type} {x : Code} (I : σ → Prop) (Sf : σ → Slots) (Lf : σ → List (Nat × Blk)) (μ : σ → Nat) (s0 : σ) (hS : Sf s0 = S) (hL : Lf s0 = L) (h0 : I s0)
    (round : ∀ s, I s → W c x (Exit.then (Again c I Sf Lf μ s) Q) (Sf s) (Lf s)) : W c (.loop x) Q S L := by
  subst hS; subst hL
  intro a w st b k cs
  have key : ∀ n s a w, μ s = n → I s → St c (Sf s) (Lf s) a w →
      ∃ e a' w', Q e a' w' ∧ Arrives c.P (lone (b.at a (.code x :: .inLoop x :: k)) cs w) b k cs e a' w' := by
    intro n
    induction n using Nat.strongRecOn with
    | _ n ih =>
      intro s a w hn hI st
      obtain ⟨e, a₁, w₁, hq, harr⟩ := round s hI a w st b (.inLoop x :: k) cs
      cases e with
      | normal =>
        obtain ⟨s', hI', hlt, st'⟩ := hq
        obtain ⟨e₂, a₂, w₂, hq₂, harr₂⟩ := ih (μ s') (hn ▸ hlt) s' a₁ w₁ rfl hI' st'
        exact ⟨e₂, a₂, w₂, hq₂, .of_steps (Steps.trans harr (.one step_inLoop)) harr₂⟩
      | exit id => exact ⟨_, a₁, w₁, hq, .pass (x := .inLoop x) rfl (fun _ _ => .inl (by simp)) harr⟩
      | goto l => exact ⟨_, a₁, w₁, hq, .pass (x := .inLoop x) rfl (fun _ _ => .inl (by simp)) harr⟩
      | ret => exact ⟨_, a₁, w₁, hq, .pass (x := .inLoop x) rfl (fun _ _ => .inl (by simp)) harr⟩
      | panic ch => exact ⟨_, a₁, w₁, hq, .pass (x := .inLoop x) rfl (fun _ _ => .inl (by simp)) harr⟩
      | outgrown => exact ⟨_, a₁, w₁, hq, .pass (x := .inLoop x) rfl (fun _ _ => .inl (by simp)) harr⟩
  obtain ⟨e, a', w', hq, harr⟩ := key _ s0 a w rfl h0 st
  exact ⟨e, a', w', hq, .of_steps (.one step_loop) harr⟩

/-- A round's end. -/
theorem WQ.again {σ : Type} {I : σ → Prop} {Sf : σ → Slots} {Lf : σ → List (Nat × Blk)} {μ : σ → Nat} {s : σ} (s' : σ) (ks : List Nat) (hI : I s') (hμ : μ s' < μ s) (hS : X.pick S ks = Sf s') (hL : (Lf s').Sublist L) :
    WQ c (Exit.then (Again c I Sf Lf μ s) Q) .normal S L :=
  fun _ _ st => ⟨s', hI, hμ, st.sl.sub (hS ▸ pick_sub S ks), st.hp.sub hL⟩

/-! ### regions whose order is settled -/
theorem W.region {id : Nat} {l : List Oper} (h : WL c l.toArray Q l S L) : W c (.region id l.toArray false) Q S L := fun a w st => wp_region_lit (h a w st)
theorem WL.nil {ops : Array Oper} (h : WQ c Q .normal S L) : WL c ops Q [] S L := fun a w st => wpList_nil (h a w st)

/-- An operation, by itself. -/
def ex (ρ : Operand → Value) (op : Op) (ty : TypeId) : Sem Next := execOp ρ ⟨none, op, ty, "", #[], none⟩

theorem ex_eq (ρ : Operand → Value) (d : Option Tmp) (op : Op) (ty : TypeId) (pos : String) (af : Array Edge) (g : Option (Nat × Bool)) : execOp ρ ⟨d, op, ty, pos, af, g⟩ = ex ρ op ty := by
  cases op <;> rfl

/-- It yields v, and changes nothing. -/
def Val (c : Cx) (S : Slots) (L : List (Nat × Blk)) (op : Op) (ty : TypeId) (v : Value) : Prop := ∀ a w, St c S L a w → (ex a.eval op ty).run c.P w = .ok (.value v) w

/-- It yields a value, in another world. -/
def Eff (c : Cx) (S : Slots) (L : List (Nat × Blk)) (op : Op) (ty : TypeId) (R : Value → List (Nat × Blk) → Prop) : Prop :=
  ∀ a w, St c S L a w → ∃ v w' L', ((ex a.eval op ty).run c.P w = .ok (.value v) w' ∨ ((ex a.eval op ty).run c.P w = .ok .skip w' ∧ v = undef)) ∧ HP c.w0 w' c.O L' ∧ R v L'

/-- It calls a function. -/
def Cal (c : Cx) (S : Slots) (L : List (Nat × Blk)) (op : Op) (ty : TypeId) (R : Value → List (Nat × Blk) → Prop) : Prop :=
  ∀ a w, St c S L a w → ∃ f args, (ex a.eval op ty).run c.P w = .ok (.enter f args) w ∧ Calls c.P f args w fun e w' => ∃ v L', e = .returned v ∧ HP c.w0 w' c.O L' ∧ R v L'

def putS (d : Option Tmp) (v : Value) (S : Slots) : Slots := match d with
  | some d => (d, v) :: S
  | none => S

def inB (n : Nat) : Option Tmp → Bool
  | some d => Nat.blt d n
  | none => true

theorem Sl.putS {n : Nat} {a : Act} {S : Slots} (h : Sl n a S) {d : Option Tmp} (hd : inB n d = true) (v : Value) : Sl n (a.put d v) (putS d v S) := by
  cases d with
  | none => exact h
  | some d => exact h.put (blt_lt hd) v

variable {ops : Array Oper} {d : Option Tmp} {op : Op} {ty : TypeId} {pos : String} {af : Array Edge} {rest : List Oper}

theorem WL.val {t : Tmp} {v : Value} (hd : Nat.blt t c.n = true) (hv : Val c S L op ty v) (k : WL c ops Q rest ((t, v) :: S) L) : WL c ops Q (⟨some t, op, ty, pos, af, none⟩ :: rest) S L := fun a w st => by
  have h := hv a w st
  rw [← ex_eq a.eval (some t) op ty pos af none] at h
  refine wpList_plain rfl fun K hK => ?_
  unfold Oper.wp
  rw [h]
  exact hK _ _ (k _ _ ⟨st.sl.put (blt_lt hd) v, st.hp⟩)

theorem WL.eff {R : Value → List (Nat × Blk) → Prop} (hd : inB c.n d = true) (hv : Eff c S L op ty R) (k : ∀ v L', R v L' → WL c ops Q rest (putS d v S) L') : WL c ops Q (⟨d, op, ty, pos, af, none⟩ :: rest) S L := fun a w st => by
  obtain ⟨v, w', L', h, hp, r⟩ := hv a w st
  rw [← ex_eq a.eval d op ty pos af none] at h
  refine wpList_plain rfl fun K hK => ?_
  unfold Oper.wp
  rcases h with h | ⟨h, rfl⟩
  · rw [h]; exact hK _ _ (k v L' r _ _ ⟨st.sl.putS hd v, hp⟩)
  · rw [h]; exact hK _ _ (k _ L' r _ _ ⟨st.sl.putS hd _, hp⟩)

theorem WL.cal {R : Value → List (Nat × Blk) → Prop} (hd : inB c.n d = true) (hv : Cal c S L op ty R) (k : ∀ v L', R v L' → WL c ops Q rest (putS d v S) L') : WL c ops Q (⟨d, op, ty, pos, af, none⟩ :: rest) S L := fun a w st => by
  obtain ⟨f, args, h, hc⟩ := hv a w st
  rw [← ex_eq a.eval d op ty pos af none] at h
  refine wpList_plain rfl fun K hK => ?_
  unfold Oper.wp
  rw [h]
  refine hc.mono fun e w' ⟨v, L', he, hp, r⟩ => ?_
  subst he
  exact hK _ _ (k v L' r _ _ ⟨st.sl.putS hd v, hp⟩)

/-- A guard: what the guarding operation yielded. -/
def guardOf (ops : Array Oper) (S : Slots) (j : Nat) : Option Value := ((ops[j]?).bind (·.dst)).bind (slot S)

theorem yielded_of {ops : Array Oper} {n : Nat} {a : Act} {S : Slots} (h : Sl n a S) {j : Nat} {b : Bool} (hg : guardOf ops S j = some (.bool b)) : yielded ops a.tmps j = some b := by
  unfold guardOf at hg
  unfold yielded
  cases hd : (ops[j]?).bind (·.dst) with
  | none => rw [hd] at hg; cases hg
  | some t =>
    rw [hd] at hg
    have := h.get t _ hg
    simp [this]

/-- A guarded operation whose guard says no. -/
theorem WL.no {t : Tmp} {j : Nat} {b b' : Bool} (hd : Nat.blt t c.n = true) (hg : guardOf ops S j = some (.bool b')) (hb : b' = !b) (k : WL c ops Q rest ((t, undef) :: S) L) : WL c ops Q (⟨some t, op, ty, pos, af, some (j, b)⟩ :: rest) S L := fun a w st => by
  refine wpList_skip ?_ (k _ _ ⟨st.sl.put (blt_lt hd) _, st.hp⟩)
  have := yielded_of st.sl hg
  subst hb
  cases b <;> simp [Region.wanted, this]

/-- One whose guard says yes is as one without. -/
theorem WL.yes {j : Nat} {b b' : Bool} (hg : guardOf ops S j = some (.bool b')) (hb : b' = b) (k : WL c ops Q (⟨d, op, ty, pos, af, none⟩ :: rest) S L) : WL c ops Q (⟨d, op, ty, pos, af, some (j, b)⟩ :: rest) S L := fun a w st => by
  have := yielded_of st.sl hg
  have k' := k a w st
  subst hb
  unfold wpList at k' ⊢
  have e : Region.wanted (⟨d, op, ty, pos, af, some (j, b')⟩ : Oper) (yielded ops a.tmps) = true := by
    cases b' <;> simp [Region.wanted, this]
  have e' : Region.wanted (⟨d, op, ty, pos, af, none⟩ : Oper) (yielded ops a.tmps) = true := by simp [Region.wanted]
  rw [if_pos e']  at k'
  rw [if_pos e]
  have q : ∀ (K : Act → World → Prop), Oper.wp c.P ⟨d, op, ty, pos, af, some (j, b')⟩ a w K Q = Oper.wp c.P ⟨d, op, ty, pos, af, none⟩ a w K Q := fun K => by
    unfold Oper.wp
    rw [ex_eq, ex_eq]
    rfl
  have q' : Oper.asks c.P ⟨d, op, ty, pos, af, some (j, b')⟩ a w = Oper.asks c.P ⟨d, op, ty, pos, af, none⟩ a w := by
    unfold Oper.asks
    rw [ex_eq, ex_eq]
  rw [q, q']
  exact k'

end
end Go.X
