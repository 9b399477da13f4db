/- Regions that draw their order: a plan tells in which order they may be gone through. Operations that only look are taken first; of the others, whichever may come up. -/
import Derived.Test.YtbalnjejamigaaaXCall
set_option linter.unusedVariables false
set_option linter.unusedSimpArgs false
namespace Go.X
open Go.RowKit

inductive Plan where
  | done
  | q (i : Nat) (p : Plan)
  | l (i : Nat) (p : Plan)
  | l2 (i : Nat) (p : Plan) (j : Nat) (r : Plan)
  | l3 (i : Nat) (p : Plan) (j : Nat) (r : Plan) (k : Nat) (s : Plan)

def planB (ops : Array Oper) : Plan → Nat → Array Bool → Bool
  | .done, _, listed => (Region.ready .any ops listed).isEmpty
  | .q i p, f + 1, listed => (Region.ready .any ops listed).contains i && Region.free .any ops listed i && planB ops p f (listed.setIfInBounds i true)
  | .l i p, f + 1, listed => (Region.ready .any ops listed == [i]) && planB ops p f (listed.setIfInBounds i true)
  | .l2 i p j r, f + 1, listed => (Region.ready .any ops listed == [i, j]) && planB ops p f (listed.setIfInBounds i true) && planB ops r f (listed.setIfInBounds j true)
  | .l3 i p j r k s, f + 1, listed => (Region.ready .any ops listed == [i, j, k]) && planB ops p f (listed.setIfInBounds i true) && planB ops r f (listed.setIfInBounds j true) && planB ops s f (listed.setIfInBounds k true)
  | _, 0, _ => false

def planP (P : Program) (ops : Array Oper) (Q : Post) (T : World → Prop) : Plan → Act → World → Prop
  | .done, a, w => Q .normal a w
  | .q i p, a, w => ∃ o v, ops[i]? = some o ∧ YieldsIf P ops T o v a ∧ planP P ops Q T p (a.put o.dst v) w
  | .l i p, a, w => wpOp P ops Q i (fun a' w' => T w' ∧ planP P ops Q T p a' w') a w
  | .l2 i p j r, a, w => wpOp P ops Q i (fun a' w' => T w' ∧ planP P ops Q T p a' w') a w ∧ wpOp P ops Q j (fun a' w' => T w' ∧ planP P ops Q T r a' w') a w
  | .l3 i p j r k s, a, w => wpOp P ops Q i (fun a' w' => T w' ∧ planP P ops Q T p a' w') a w ∧ wpOp P ops Q j (fun a' w' => T w' ∧ planP P ops Q T r a' w') a w ∧
      wpOp P ops Q k (fun a' w' => T w' ∧ planP P ops Q T s a' w') a w

/-- The post of a panic hangs on no slot. -/
def Calm (Q : Post) : Prop := ∀ c a d v w, Q (.panic c) (Act.put a d v) w → Q (.panic c) a w

theorem plan_sound {P : Program} {ops : Array Oper} {Q : Post} {T : World → Prop} (hs : Region.noSelect ops = true) (hQ : Calm Q) : ∀ (p : Plan) (f : Nat) (listed : Array Bool) (a : Act) (w : World), planB ops p f listed = true → T w → planP P ops Q T p a w →
    wpAnyH P .any ops Q T f listed a w
  | .done, f, listed, a, w, hB, _, h => by
    unfold planB at hB
    exact wpAnyH_done (by simpa using hB) h f
  | .q i p, 0, _, _, _, hB, _, _ => by simp [planB] at hB
  | .q i p, f + 1, listed, a, w, hB, hT, h => by
    simp only [planB, Bool.and_eq_true] at hB
    obtain ⟨o, v, ho, hy, h'⟩ := h
    exact wpAnyH_take ho hs hB.1.2 hB.1.1 (fun c a w => hQ c a _ _ w) hy hT (plan_sound hs hQ p f _ _ w hB.2 hT h')
  | .l i p, 0, _, _, _, hB, _, _ => by simp [planB] at hB
  | .l i p, f + 1, listed, a, w, hB, hT, h => by
    simp only [planB, Bool.and_eq_true, beq_iff_eq] at hB
    refine wpAnyH_all hB.1 (by simp) fun k hk => ?_
    simp only [List.mem_singleton] at hk
    subst hk
    exact wpOp_mono (fun a' w' ⟨h1, h2⟩ => ⟨h1, plan_sound hs hQ p f _ a' w' hB.2 h1 h2⟩) h
  | .l2 i p j r, 0, _, _, _, hB, _, _ => by simp [planB] at hB
  | .l2 i p j r, f + 1, listed, a, w, hB, hT, h => by
    simp only [planB, Bool.and_eq_true, beq_iff_eq] at hB
    refine wpAnyH_all hB.1.1 (by simp) fun k hk => ?_
    simp only [List.mem_cons, List.not_mem_nil, or_false] at hk
    rcases hk with rfl | rfl
    · exact wpOp_mono (fun a' w' ⟨h1, h2⟩ => ⟨h1, plan_sound hs hQ p f _ a' w' hB.1.2 h1 h2⟩) h.1
    · exact wpOp_mono (fun a' w' ⟨h1, h2⟩ => ⟨h1, plan_sound hs hQ r f _ a' w' hB.2 h1 h2⟩) h.2
  | .l3 i p j r k s, 0, _, _, _, hB, _, _ => by simp [planB] at hB
  | .l3 i p j r k s, f + 1, listed, a, w, hB, hT, h => by
    simp only [planB, Bool.and_eq_true, beq_iff_eq] at hB
    refine wpAnyH_all hB.1.1.1 (by simp) fun x hx => ?_
    simp only [List.mem_cons, List.not_mem_nil, or_false] at hx
    rcases hx with rfl | rfl | rfl
    · exact wpOp_mono (fun a' w' ⟨h1, h2⟩ => ⟨h1, plan_sound hs hQ p f _ a' w' hB.1.1.2 h1 h2⟩) h.1
    · exact wpOp_mono (fun a' w' ⟨h1, h2⟩ => ⟨h1, plan_sound hs hQ r f _ a' w' hB.1.2 h1 h2⟩) h.2.1
    · exact wpOp_mono (fun a' w' ⟨h1, h2⟩ => ⟨h1, plan_sound hs hQ s f _ a' w' hB.2 h1 h2⟩) h.2.2

/-- The goal: what is left of the plan. Lr: the blocks that are looked into by operations that are taken first: nothing in the region changes them. -/
def WD (c : Cx) (ops : Array Oper) (Q : Post) (Lr : List (Nat × Blk)) (p : Plan) (S : Slots) (L : List (Nat × Blk)) : Prop :=
  ∀ a w, St c S L a w → planP c.P ops Q (fun w => HP c.w0 w c.O Lr) p a w

/-- Operation i comes up; behind it Lr stands as it did. -/
def WO (c : Cx) (ops : Array Oper) (Q : Post) (Lr : List (Nat × Blk)) (i : Nat) (p : Plan) (S : Slots) (L : List (Nat × Blk)) : Prop :=
  ∀ a w, St c S L a w → wpOp c.P ops Q i (fun a' w' => HP c.w0 w' c.O Lr ∧ planP c.P ops Q (fun w => HP c.w0 w c.O Lr) p a' w') a w

def planOK (ops : Array Oper) (p : Plan) : Bool := Region.noSelect ops && planB ops p ops.size (Array.replicate ops.size false)

section
variable {c : Cx} {Q : Post} {S : Slots} {L L' Lr : List (Nat × Blk)} {ops : Array Oper} {ty : TypeId} {pos : String} {af : Array Edge} {op : Op} {p r s : Plan} {i j k : Nat}

theorem W.drawn {id : Nat} (p : Plan) (Lr : List (Nat × Blk)) (hm : c.P.follows .mixedOrders = true) (hQ : Calm Q) (hB : planOK ops p = true) (hs : Lr.Sublist L) (h : WD c ops Q Lr p S L) : W c (.region id ops true) Q S L := fun a w st => by
  simp only [planOK, Bool.and_eq_true] at hB
  have hp : HP c.w0 { w with drawn := w.drawn + 1 } c.O L := st.hp.drew _
  exact wp_region_held hm (plan_sound hB.1 hQ p _ _ a _ hB.2 (hp.sub hs) (h a _ ⟨st.sl, hp⟩))

theorem WD.done (h : WQ c Q .normal S L) : WD c ops Q Lr .done S L := fun a w st => h a w st

theorem WD.q {t : Tmp} {v : Value} (ho : ops[i]? = some ⟨some t, op, ty, pos, af, none⟩) (hd : Nat.blt t c.n = true) (hv : Val c S Lr op ty v) (h : WD c ops Q Lr p ((t, v) :: S) L) : WD c ops Q Lr (.q i p) S L := fun a w st =>
  ⟨_, v, ho, .inl ⟨by simp [Region.wanted], fun w' hw' => by rw [ex_eq]; exact hv a w' ⟨st.sl, hw'⟩⟩, h _ w ⟨st.sl.put (blt_lt hd) v, st.hp⟩⟩
theorem WD.no {t : Tmp} {j : Nat} {b b' : Bool} (ho : ops[i]? = some ⟨some t, op, ty, pos, af, some (j, b)⟩) (hd : Nat.blt t c.n = true) (hg : guardOf ops S j = some (.bool b')) (hb : b' = !b) (h : WD c ops Q Lr p ((t, undef) :: S) L) : WD c ops Q Lr (.q i p) S L := fun a w st => by
  have := yielded_of st.sl hg
  subst hb
  exact ⟨_, undef, ho, .inr ⟨by cases b <;> simp [Region.wanted, this], rfl⟩, h _ w ⟨st.sl.put (blt_lt hd) undef, st.hp⟩⟩
theorem WD.yes {t : Tmp} {v : Value} {j : Nat} {b b' : Bool} (ho : ops[i]? = some ⟨some t, op, ty, pos, af, some (j, b)⟩) (hd : Nat.blt t c.n = true) (hg : guardOf ops S j = some (.bool b')) (hb : b' = b) (hv : Val c S Lr op ty v) (h : WD c ops Q Lr p ((t, v) :: S) L) :
    WD c ops Q Lr (.q i p) S L := fun a w st => by
  have := yielded_of st.sl hg
  subst hb
  exact ⟨_, v, ho, .inl ⟨by cases b' <;> simp [Region.wanted, this], fun w' hw' => by rw [ex_eq]; exact hv a w' ⟨st.sl, hw'⟩⟩, h _ w ⟨st.sl.put (blt_lt hd) v, st.hp⟩⟩

theorem WD.l (h : WO c ops Q Lr i p S L) : WD c ops Q Lr (.l i p) S L := h
theorem WD.l2 (h1 : WO c ops Q Lr i p S L) (h2 : WO c ops Q Lr j r S L) : WD c ops Q Lr (.l2 i p j r) S L := fun a w st => ⟨h1 a w st, h2 a w st⟩
theorem WD.l3 (h1 : WO c ops Q Lr i p S L) (h2 : WO c ops Q Lr j r S L) (h3 : WO c ops Q Lr k s S L) : WD c ops Q Lr (.l3 i p j r k s) S L := fun a w st => ⟨h1 a w st, h2 a w st, h3 a w st⟩

theorem sub_of_mem {w0 w : World} {O : List Nat} (h : HP w0 w O L') (hn : (Lr.map (·.1)).Nodup) (hs : ∀ p ∈ Lr, p ∈ L') : HP w0 w O Lr :=
  ⟨h.os, h.tape, h.output, h.size, h.keep, fun p hp => h.held p (hs p hp), fun p hp => h.own p (hs p hp), hn⟩

theorem WO.eff {d : Option Tmp} {R : Value → List (Nat × Blk) → Prop} (ho : ops[i]? = some ⟨d, op, ty, pos, af, none⟩) (hd : inB c.n d = true) (hLr : Lr.Sublist L) (hv : Eff c S L op ty R) (h : ∀ v L', R v L' → (∀ p ∈ Lr, p ∈ L') ∧ WD c ops Q Lr p (putS d v S) L') : WO c ops Q Lr i p S L := fun a w st => by
  obtain ⟨v, w', L', hr, hp, r⟩ := hv a w st
  rw [← ex_eq a.eval d op ty pos af none] at hr
  obtain ⟨h1, h2⟩ := h v L' r
  have hn : (Lr.map (·.1)).Nodup := st.hp.nodup.sublist (hLr.map _)
  unfold wpOp
  simp only [ho]
  rw [if_pos (by simp [Region.wanted])]
  refine .inl ?_
  unfold Oper.wp
  rcases hr with hr | ⟨hr, rfl⟩
  · rw [hr]; exact ⟨sub_of_mem hp hn h1, h2 _ _ ⟨st.sl.putS hd v, hp⟩⟩
  · rw [hr]; exact ⟨sub_of_mem hp hn h1, h2 _ _ ⟨st.sl.putS hd _, hp⟩⟩

theorem WO.cal {d : Option Tmp} {R : Value → List (Nat × Blk) → Prop} (ho : ops[i]? = some ⟨d, op, ty, pos, af, none⟩) (hd : inB c.n d = true) (hLr : Lr.Sublist L) (hv : Cal c S L op ty R) (h : ∀ v L', R v L' → (∀ p ∈ Lr, p ∈ L') ∧ WD c ops Q Lr p (putS d v S) L') : WO c ops Q Lr i p S L := fun a w st => by
  obtain ⟨f, args, hr, hc⟩ := hv a w st
  rw [← ex_eq a.eval d op ty pos af none] at hr
  have hn : (Lr.map (·.1)).Nodup := st.hp.nodup.sublist (hLr.map _)
  unfold wpOp
  simp only [ho]
  rw [if_pos (by simp [Region.wanted])]
  refine .inl ?_
  unfold Oper.wp
  rw [hr]
  refine hc.mono fun e w' ⟨v, L', he, hp, r⟩ => ?_
  obtain ⟨h1, h2⟩ := h v L' r
  subst he
  exact ⟨sub_of_mem hp hn h1, h2 _ _ ⟨st.sl.putS hd v, hp⟩⟩

theorem Calm.body {P : Program} {fn : Func} {R : Ending → World → Prop} : Calm (bodyPost P fn R) := fun _ a d _ _ h => by
  cases d <;> exact h
theorem Calm.then {K : Act → World → Prop} (h : Calm Q) : Calm (Exit.then K Q) := h
theorem Calm.inBlock {id : Nat} (h : Calm Q) : Calm (Exit.inBlock id Q) := h
end

end Go.X
