/- RelaySuspends: what both boxes hold. -/
import Derived.Test.YtmeckbjinmgbbaaInv
set_option linter.unusedVariables false
set_option linter.unusedSimpArgs false

namespace Go.Proofs.Ytmeckbjinmgbbaa
open Go.X
/-- Tokens enough at each twenty ticks. -/
def Tk2 (i : Nat) (a : PAcc) : Prop := 0 ≤ a.n ∧ 0 ≤ a.t ∧ a.t ≤ 20 * i ∧ (1 ≤ a.n ∨ a.t + 10 ≤ 20 * i)
theorem Tk2.ok {i : Nat} {a : PAcc} (h : Tk2 i a) (hi : i ≤ 30) : takeE 5 10 a.t a.n (20 * i) = 0 := by
  obtain ⟨h1, h2, h3, h4⟩ := h
  exact (take_ok (by omega) (by omega) (by omega)).1
theorem Tk2.next {i : Nat} {a b : PAcc} (h : Tk2 i a) (h1 : b.t = a.t) (h2 : b.n = a.n) : Tk2 (i + 1) b := by
  obtain ⟨q1, q2, q3, q4⟩ := h
  exact ⟨by omega, by omega, by omega, by omega⟩
theorem Tk2.same {i : Nat} {a b : PAcc} (h : Tk2 i a) (h1 : b.t = a.t) (h2 : b.n = a.n) : Tk2 i b := by
  obtain ⟨q1, q2, q3, q4⟩ := h
  exact ⟨by omega, by omega, by omega, by omega⟩
theorem Tk2.took {i : Nat} {a b : PAcc} (h : Tk2 i a) (hi : i ≤ 30) (h1 : b.t = takeT a.t (20 * i)) (h2 : b.n = takeN 5 10 a.t a.n (20 * i)) : Tk2 (i + 1) b := by
  obtain ⟨q1, q2, q3, q4⟩ := h
  obtain ⟨e1, e2, e3⟩ := take_ok (t := a.t) (n := a.n) (now := 20 * i) (by omega) (by omega) (by omega)
  rw [e2] at h1; rw [e3] at h2
  exact ⟨by omega, by omega, by omega, by omega⟩
/-- A box that holds so many: none, or the last one. -/
def Bx (c : PAcc) (k : Nat) : Prop := (k = 0 ∧ c.abs.ms = []) ∨ (k = 1 ∧ 1 ≤ c.many ∧ ∃ x, c.abs.ms = [x] ∧ x.id = c.many)
theorem Bx.len {c : PAcc} {k : Nat} (h : Bx c k) : c.ms.length = k ∧ k ≤ 1 := by
  rw [← absms]
  rcases h with ⟨rfl, h⟩ | ⟨rfl, _, x, h, _⟩ <;> rw [h] <;> simp
theorem Bx.nil {c : PAcc} (h : Bx c 0) : c.abs.ms = [] := by
  rcases h with ⟨_, h⟩ | ⟨h, _⟩
  · exact h
  · cases h
theorem Bx.id {c : PAcc} {k q : Nat} {ms : List ML} {m : ML} (h : Bx c k) (hm : ms.map (·.1) = c.abs.ms) (hq : ms[q]? = some m) : m.1.id = c.many ∧ k = 1 ∧ q = 0 := by
  have h1 : c.abs.ms[q]? = some m.1 := by rw [← hm, List.getElem?_map, hq]; rfl
  rcases h with ⟨_, h⟩ | ⟨h0, _, x, h, hx⟩
  · rw [h] at h1; simp at h1
  · rw [h] at h1
    cases q with
    | zero => simp at h1; subst h1; exact ⟨hx, h0, rfl⟩
    | succ q => simp at h1
theorem Bx.ack {c c' : PAcc} (h : Bx c 1) (hk : Acked c c.many c') : Bx c' 0 ∧ ackE c.abs.ms c.many c.many = 0 := by
  rcases h with ⟨h, _⟩ | ⟨_, h0, x, h, hx⟩
  · cases h
  · have := ack_one (many := c.many) hx ⟨h0, Int.le_refl _⟩
    rw [h]; exact ⟨.inl ⟨rfl, by rw [hk.ms, h]; exact this.2⟩, this.1⟩
theorem Bx.put {c c' : PAcc} {e : EnvS} {s : StampS} {l : List Int} (h : Bx c 0) (hm : c'.abs.ms = c.abs.ms ++ [⟨c.many + 1, e.at none 0 0, s, l⟩]) (h2 : c'.many = c.many + 1) (h3 : 0 ≤ c.many) : Bx c' 1 :=
  .inr ⟨rfl, by omega, _, by rw [hm, h.nil]; rfl, h2.symm⟩
structure V3 (p0 p1 p2 : Nat) (root : List Int) (i : Nat) (x y z : PAcc) (m : List Ent) (k1 k2 : Nat) : Prop where
  okx : POK x
  oky : POK y
  okz : POK z
  px : x.p = p0
  py : y.p = p1
  pz : z.p = p2
  g : Good root m
  lx : x.link = lnk 0 ∧ x.susp = false
  ly : y.link = lnk 1
  tx : Tk2 i x
  ty : Tk2 i y
  by_ : Bx y k1
  bz : Bx z k2
  my : 0 ≤ y.many ∧ y.many ≤ i
  mz : 0 ≤ z.many ∧ z.many ≤ i
section
variable {p0 p1 p2 : Nat} {root : List Int} {i : Nat} {x y z : PAcc} {m : List Ent}
theorem V3.acky {y' : PAcc} {k1 k2 : Nat} (h : V3 p0 p1 p2 root i x y z m k1 k2) (h1 : k1 = 1) (hk : Acked y y.many y') : V3 p0 p1 p2 root i x y' z m 0 k2 ∧ ackE y.abs.ms y.many y.many = 0 ∧ y'.many = y.many := by
  subst h1
  obtain ⟨q1, q2, q3, q4, q5, q6, q7, q8, q9, q10, q11, q12, q13, q14, q15⟩ := h
  exact ⟨⟨q1, hk.ok, q3, q4, hk.p.trans q5, q6, q7, q8, hk.link.trans q9, q10, q11.same hk.t hk.n, (q12.ack hk).1, q13, by rw [hk.many]; exact q14, q15⟩, (q12.ack hk).2, hk.many⟩
theorem V3.ackz {z' : PAcc} {k1 k2 : Nat} (h : V3 p0 p1 p2 root i x y z m k1 k2) (h1 : k2 = 1) (hk : Acked z z.many z') : V3 p0 p1 p2 root i x y z' m k1 0 ∧ ackE z.abs.ms z.many z.many = 0 ∧ z'.many = z.many := by
  subst h1
  obtain ⟨q1, q2, q3, q4, q5, q6, q7, q8, q9, q10, q11, q12, q13, q14, q15⟩ := h
  exact ⟨⟨q1, q2, hk.ok, q4, q5, hk.p.trans q6, q7, q8, q9, q10, q11, q12, (q13.ack hk).1, q14, by rw [hk.many]; exact q15⟩, (q13.ack hk).2, hk.many⟩
theorem V3.step {y1 : PAcc} {u : Bool} {ticks : Int} {e e2 : EnvS} {l l2 tag tag2 : List Int} {r r2 : SR} (h : V3 p0 p1 p2 root i x y z m 0 0) (hi : i ≤ 30) (hs : POK y1 ∧ y1.p = y.p ∧ y1.abs = susL y.abs u)
    (h74 : Snt root ticks y1 z e l tag (20 * i) r) (h83 : Snt root ticks x r.a e2 l2 tag2 (20 * i) r2) (ht : tgL (lnk 1) e l = tag) (ht2 : tgL (lnk 0) e2 l2 = tag2) :
    ∃ k2 : Nat, (u = true → k2 = 0 ∧ r.k = 11) ∧ (u = false → k2 = 1 ∧ r.k = 0) ∧ r2.k = 0 ∧ V3 p0 p1 p2 root (i + 1) r2.a r2.c r.c r2.m 1 k2 := by
  obtain ⟨q1, q2, q3, q4, q5, q6, q7, q8, q9, q10, q11, q12, q13, q14, q15⟩ := h
  have fy := PAcc.fld hs.2.2
  have l1 : y1.link = lnk 1 := fy.1.trans q9
  have su : y1.susp = u := fy.2.1
  have e1 : y1.t = y.t := fy.2.2.1
  have e2' : y1.n = y.n := fy.2.2.2.1
  have e3 : y1.ms.length = 0 := fy.2.2.2.2.1.trans (by show y.abs.ms.length = 0; rw [absms]; exact q12.len.1)
  have e4 : y1.many = y.many := fy.2.2.2.2.2.1
  have e5 : y1.abs.ms = [] := by rw [hs.2.2]; exact q12.nil
  have ty1 : Tk2 i y1 := q11.same e1 e2'
  cases u with
  | true =>
    obtain ⟨k, w⟩ := h74.gone' (by rw [l1]; exact ht) su
    have am : r.a.abs.ms = [] := by rw [h74.ams]; exact e5
    have w2 := h83.went (by rw [q8.1]; exact ht2) q8.2 (by rw [w.ams]; omega) (q10.ok hi)
    have b2 : Bx r2.c 1 := Bx.put (c := r.a) (.inl ⟨rfl, am⟩) w2.ms w2.many (by rw [w.amany]; omega)
    exact ⟨0, fun _ => ⟨rfl, k⟩, (fun h => by cases h), w2.k, h83.oka, h83.okc, h74.okc, h83.pa.trans q4, h83.pc.trans (h74.pa.trans (hs.2.1.trans q5)), h74.pc.trans q6, h83.g, ⟨w2.link.trans q8.1, w2.susp.trans q8.2⟩, w2.clink.trans (w.link.trans l1),
      q10.took hi w2.t w2.n, ty1.next (w2.ct.trans w.t) (w2.cn.trans w.n), b2, .inl ⟨rfl, by rw [w.ms]; exact q13.nil⟩, by rw [w2.many, w.amany]; omega, by rw [w.many]; omega⟩
  | false =>
    have w := h74.went (by rw [l1]; exact ht) su (by rw [q13.len.1]; omega) (ty1.ok hi)
    have am : r.a.abs.ms = [] := by rw [h74.ams]; exact e5
    have w2 := h83.went (by rw [q8.1]; exact ht2) q8.2 (by rw [w.ams]; omega) (q10.ok hi)
    have b2 : Bx r2.c 1 := Bx.put (c := r.a) (.inl ⟨rfl, am⟩) w2.ms w2.many (by rw [w.amany]; omega)
    have b3 : Bx r.c 1 := Bx.put q13 w.ms w.many (by omega)
    exact ⟨1, (fun h => by cases h), fun _ => ⟨rfl, w.k⟩, w2.k, h83.oka, h83.okc, h74.okc, h83.pa.trans q4, h83.pc.trans (h74.pa.trans (hs.2.1.trans q5)), h74.pc.trans q6, h83.g, ⟨w2.link.trans q8.1, w2.susp.trans q8.2⟩, w2.clink.trans (w.link.trans l1),
      q10.took hi w2.t w2.n, (ty1.took hi w.t w.n).same w2.ct w2.cn, b2, b3, by rw [w2.many, w.amany]; omega, by rw [w.many]; omega⟩
theorem V3.new {x y z : PAcc} (h1 : POK x ∧ x.abs = nwA 0) (h2 : POK y ∧ y.abs = nwA 1) (h3 : POK z ∧ z.abs = nwA 2) (e1 : x.p = p0) (e2 : y.p = p1) (e3 : z.p = p2) : V3 p0 p1 p2 root 0 x y z [] 0 0 := by
  have f1 := PAcc.fld h1.2
  have f2 := PAcc.fld h2.2
  have f3 := PAcc.fld h3.2
  have n1 : x.n = 5 := f1.2.2.2.1
  have t1 : x.t = 0 := f1.2.2.1
  have n2 : y.n = 5 := f2.2.2.2.1
  have t2 : y.t = 0 := f2.2.2.1
  have m2 : y.many = 0 := f2.2.2.2.2.2.1
  have m3 : z.many = 0 := f3.2.2.2.2.2.1
  exact ⟨h1.1, h2.1, h3.1, e1, e2, e3, Good.nil, ⟨f1.1, f1.2.1⟩, f2.1, ⟨by omega, by omega, by omega, by omega⟩, ⟨by omega, by omega, by omega, by omega⟩, .inl ⟨rfl, by rw [h2.2]; rfl⟩, .inl ⟨rfl, by rw [h3.2]; rfl⟩, by omega, by omega⟩
end
end Go.Proofs.Ytmeckbjinmgbbaa