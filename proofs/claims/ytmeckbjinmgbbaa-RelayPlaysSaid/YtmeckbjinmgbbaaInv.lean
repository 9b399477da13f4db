/- Layer 20: two accounts, one of which sends to the other. -/
import Derived.Test.YtmeckbjinmgbbaaLaws202
set_option linter.unusedVariables false
set_option linter.unusedSimpArgs false

namespace Go.Proofs.Ytmeckbjinmgbbaa
open Go.X
structure J2 (p1 p2 : Nat) (root : List Int) (a c : PAcc) (m : List Ent) : Prop where
  oka : POK a
  okc : POK c
  pa : a.p = p1
  pc : c.p = p2
  g : Good root m
section
variable {p1 p2 : Nat} {root : List Int} {a c : PAcc} {m : List Ent} {e : EnvS} {l tag : List Int} {now ticks : Int} {r : SR}
theorem J2.snd (h : J2 p1 p2 root a c m) (hs : Snt root ticks a c e l tag now r) : J2 p1 p2 root r.a r.c r.m := ⟨hs.oka, hs.okc, hs.pa.trans h.pa, hs.pc.trans h.pc, hs.g⟩
theorem PAcc.fld {a : PAcc} {b : AAcc} (h : a.abs = b) : a.link = b.link ∧ a.susp = b.susp ∧ a.t = b.t ∧ a.n = b.n ∧ a.ms.length = b.ms.length ∧ a.many = b.many ∧ a.idn = b.idn ∧ a.sig = b.sig :=
  ⟨congrArg AAcc.link h, congrArg AAcc.susp h, congrArg AAcc.t h, congrArg AAcc.n h, (by simpa [PAcc.abs] using congrArg (fun x => x.ms.length) h), congrArg AAcc.many h, congrArg AAcc.idn h, congrArg AAcc.sig h⟩
/-- It went: what both are then. -/
structure Went (root : List Int) (ticks : Int) (a c : PAcc) (e : EnvS) (l : List Int) (now : Int) (r : SR) : Prop where
  k : r.k = 0
  s : r.s = stampF root ticks e now
  link : r.a.link = a.link
  susp : r.a.susp = a.susp
  t : r.a.t = takeT a.t now
  n : r.a.n = takeN 5 10 a.t a.n now
  ams : r.a.ms.length = a.ms.length
  amany : r.a.many = a.many
  len : r.c.ms.length = c.ms.length + 1
  many : r.c.many = c.many + 1
  ms : r.c.abs.ms = c.abs.ms ++ [⟨c.many + 1, e.at none 0 0, stampF root ticks e now, l⟩]
  clink : r.c.link = c.link
  csusp : r.c.susp = c.susp
  ct : r.c.t = c.t
  cn : r.c.n = c.n
theorem absms {a : PAcc} : a.abs.ms.length = a.ms.length := by simp [PAcc.abs]
theorem Snt.went (h : Snt root ticks a c e l tag now r) (h1 : tgL a.link e l = tag) (h2 : a.susp = false) (h3 : c.ms.length < 8) (h4 : takeE 5 10 a.t a.n now = 0) : Went root ticks a c e l now r := by
  obtain ⟨k, s, x, y⟩ := h.ok (by exact h1) (by exact h2) (by rw [absms]; exact h3) (by exact h4)
  have fa := PAcc.fld x
  have fc := PAcc.fld y
  refine ⟨k, s, fa.1, fa.2.1, fa.2.2.1, fa.2.2.2.1, ?_, fa.2.2.2.2.2.1, ?_, fc.2.2.2.2.2.1, congrArg AAcc.ms y, fc.1, fc.2.1, fc.2.2.1, fc.2.2.2.1⟩
  · rw [fa.2.2.2.2.1]; exact absms
  · rw [fc.2.2.2.2.1]; simp [AAcc.put, absms]
/-- It went not, but for the rate: all is as it was. -/
structure Stays (a c : PAcc) (r : SR) : Prop where
  s : r.s = StampS.zero
  link : r.a.link = a.link
  susp : r.a.susp = a.susp
  t : r.a.t = a.t
  n : r.a.n = a.n
  ams : r.a.ms.length = a.ms.length
  amany : r.a.many = a.many
  len : r.c.ms.length = c.ms.length
  many : r.c.many = c.many
  ms : r.c.abs.ms = c.abs.ms
  clink : r.c.link = c.link
  csusp : r.c.susp = c.susp
  ct : r.c.t = c.t
  cn : r.c.n = c.n
theorem Stays.mk' (s : r.s = StampS.zero) (x : r.a.abs = a.abs) (y : r.c.abs = c.abs) : Stays a c r := by
  have fa := PAcc.fld x
  have fc := PAcc.fld y
  exact ⟨s, fa.1, fa.2.1, fa.2.2.1, fa.2.2.2.1, by rw [fa.2.2.2.2.1]; exact absms, fa.2.2.2.2.2.1, by rw [fc.2.2.2.2.1]; exact absms, fc.2.2.2.2.2.1, congrArg AAcc.ms y, fc.1, fc.2.1, fc.2.2.1, fc.2.2.2.1⟩
theorem Snt.mac' (h : Snt root ticks a c e l tag now r) (h1 : tgL a.link e l ≠ tag) : r.k = 4 ∧ Stays a c r := by
  obtain ⟨k, s, x, y⟩ := h.mac (by exact h1)
  exact ⟨k, .mk' s x y⟩
theorem Snt.gone' (h : Snt root ticks a c e l tag now r) (h1 : tgL a.link e l = tag) (h2 : a.susp = true) : r.k = 11 ∧ Stays a c r := by
  obtain ⟨k, s, x, y⟩ := h.gone (by exact h1) (by exact h2)
  exact ⟨k, .mk' s x y⟩
theorem Snt.full' (h : Snt root ticks a c e l tag now r) (h1 : tgL a.link e l = tag) (h2 : a.susp = false) (h3 : 8 ≤ c.ms.length) : r.k = 8 ∧ Stays a c r := by
  obtain ⟨k, s, x, y⟩ := h.full (by exact h1) (by exact h2) (by rw [absms]; exact h3)
  exact ⟨k, .mk' s x y⟩
/-- No token: what both are then. -/
structure Rated (a c : PAcc) (now : Int) (r : SR) : Prop where
  k : r.k = takeE 5 10 a.t a.n now
  s : r.s = StampS.zero
  link : r.a.link = a.link
  susp : r.a.susp = a.susp
  t : r.a.t = takeT a.t now
  n : r.a.n = takeN 5 10 a.t a.n now
  len : r.c.ms.length = c.ms.length
  many : r.c.many = c.many
  ms : r.c.abs.ms = c.abs.ms
theorem Snt.rated (h : Snt root ticks a c e l tag now r) (h1 : tgL a.link e l = tag) (h2 : a.susp = false) (h3 : c.ms.length < 8) (h4 : takeE 5 10 a.t a.n now ≠ 0) : Rated a c now r := by
  obtain ⟨k, s, x, y⟩ := h.rate (by exact h1) (by exact h2) (by rw [absms]; exact h3) (by exact h4)
  have fa := PAcc.fld x
  have fc := PAcc.fld y
  exact ⟨k, s, fa.1, fa.2.1, fa.2.2.1, fa.2.2.2.1, by rw [fc.2.2.2.2.1]; exact absms, fc.2.2.2.2.2.1, congrArg AAcc.ms y⟩
end
theorem take_ok {t n now : Int} (h : t ≤ now) (h2 : now ≤ 1000000) (h3 : min 5 (n + (now / 10 - t / 10)) ≠ 0) : takeE 5 10 t n now = 0 ∧ takeT t now = now ∧ takeN 5 10 t n now = min 5 (n + (now / 10 - t / 10)) - 1 := by
  unfold takeE takeT takeN lvF
  rw [if_neg (by omega), if_neg (by omega), if_neg h3, if_neg (by omega), if_neg (by omega), if_neg (by omega), if_neg (by omega), if_neg h3]
  exact ⟨rfl, rfl, rfl⟩
theorem take_no {t n now : Int} (h : t ≤ now) (h2 : now ≤ 1000000) (h3 : min 5 (n + (now / 10 - t / 10)) = 0) : takeE 5 10 t n now = 10 ∧ takeT t now = now ∧ takeN 5 10 t n now = 0 := by
  unfold takeE takeT takeN lvF
  rw [if_neg (by omega), if_neg (by omega), if_pos h3, if_neg (by omega), if_neg (by omega), if_neg (by omega), if_neg (by omega), if_pos h3]
  exact ⟨rfl, rfl, rfl⟩
theorem ack_one {x : AM} {many id : Int} (h : x.id = id) (h1 : 1 ≤ id ∧ id ≤ many) : ackE [x] many id = 0 ∧ ackL [x] many id = [] := by
  have h2 : aidx [x] id = some 0 := by unfold aidx; rw [if_pos h]
  exact ack_yes (i := 0) (by omega) h2
theorem ack_nil {many id : Int} : ackL [] many id = [] := by unfold ackL; split <;> rfl
/-- One let go of an account's box. -/
structure Acked (c : PAcc) (id : Int) (c' : PAcc) : Prop where
  ok : POK c'
  p : c'.p = c.p
  link : c'.link = c.link
  susp : c'.susp = c.susp
  t : c'.t = c.t
  n : c'.n = c.n
  many : c'.many = c.many
  ms : c'.abs.ms = ackL c.abs.ms c.many id
theorem Acked.mk' {c c' : PAcc} {id : Int} (h : POK c' ∧ c'.p = c.p ∧ c'.abs = ackA c.abs id) : Acked c id c' := by
  have f := PAcc.fld h.2.2
  exact ⟨h.1, h.2.1, f.1, f.2.1, f.2.2.1, f.2.2.2.1, f.2.2.2.2.2.1, congrArg AAcc.ms h.2.2⟩
theorem J2.acked {p1 p2 : Nat} {root : List Int} {a c c' : PAcc} {m : List Ent} {id : Int} (h : J2 p1 p2 root a c m) (hc : Acked c id c') : J2 p1 p2 root a c' m := ⟨h.oka, hc.ok, h.pa, hc.p.trans h.pc, h.g⟩
theorem ms_nil {c : PAcc} (h : c.abs.ms = []) : c.ms.length = 0 := by rw [← absms, h]; rfl
theorem flipAll : ((List.range 256).all fun x => (List.range 8).all fun k => !(xorI .u8 (x : Int) (shlI .u8 1 (k : Int)) == (x : Int))) = true := by kernel_rfl
theorem flip1 {x k : Int} (h0 : 0 ≤ x) (h1 : x ≤ 255) (k0 : 0 ≤ k) (k1 : k < 8) : xorI .u8 x (shlI .u8 1 k) ≠ x := by
  obtain ⟨x, rfl⟩ := Int.eq_ofNat_of_zero_le h0
  obtain ⟨k, rfl⟩ := Int.eq_ofNat_of_zero_le k0
  have h2 := List.all_eq_true.1 (List.all_eq_true.1 flipAll x (List.mem_range.2 (by omega))) k (List.mem_range.2 (by omega))
  simpa using h2
def badF (l : List Int) (i : Nat) (y : Int) : List Int := l.set i (xorI .u8 (l.getD i 0) y)
theorem badF_len {l : List Int} {i : Nat} {y : Int} : (badF l i y).length = l.length := by simp [badF]
theorem badF_bytes {l : List Int} {i : Nat} {y : Int} (h : bytes l) : bytes (badF l i y) := fun c hc => by
  rcases List.mem_or_eq_of_mem_set hc with hc | rfl
  · exact h c hc
  · unfold xorI; rw [IntKind.wrap_u8]; omega
theorem badF_ne {l : List Int} {i : Nat} {k : Int} (h : bytes l) (hi : i < l.length) (k0 : 0 ≤ k) (k1 : k < 8) : l ≠ badF l i (shlI .u8 1 k) := fun e => by
  have e1 : l.getD i 0 = (badF l i (shlI .u8 1 k)).getD i 0 := by rw [← e]
  rw [badF, List.getD_eq_getElem?_getD (l := l.set _ _), List.getElem?_set_self hi] at e1
  exact flip1 (h.get i).1 (h.get i).2 k0 k1 e1.symm
theorem shl10 : shlI .u8 1 0 = 1 := by decide
end Go.Proofs.Ytmeckbjinmgbbaa