/- Layer 20: steps that came in. -/
import Derived.Test.YtmeckbjinmgbbaaInv
import Derived.Test.YtmeckbjinmgbbaaXC
set_option linter.unusedVariables false
set_option linter.unusedSimpArgs false

namespace Go.Proofs.Ytmeckbjinmgbbaa
open Go.X
theorem list_choose20 {α β : Type} {f : α → β} {p : α → Prop} : ∀ {es : List β}, (∀ e ∈ es, ∃ o, e = f o ∧ p o) → ∃ l : List α, es = l.map f ∧ ∀ o ∈ l, p o
  | [], _ => ⟨[], rfl, fun o h => by cases h⟩
  | e :: es, h => by
    obtain ⟨o, rfl, ho⟩ := h e List.mem_cons_self
    obtain ⟨l, rfl, hl⟩ := list_choose20 (f := f) (p := p) (es := es) fun x hx => h x (List.mem_cons_of_mem _ hx)
    exact ⟨o :: l, rfl, fun x hx => by rcases List.mem_cons.1 hx with rfl | hx; exact ho; exact hl x hx⟩
structure OpR where
  do_ : Int
  num : Int
  id : Int
  now : Int
  e : EnvS
  A : Option Addr
  n : Nat
  cap : Nat
  b : List Int
  tag : List Int
  kA : Option Addr
  kn : Nat
  kc : Nat
  ks : List (List Int)
def OpR.segs (o : OpR) : List Seg := [(1, [.int .i64 o.do_]), (1, [.int .i64 o.num]), (1, [.int .i64 o.id]), (1, [.int .i64 o.now])] ++ enV o.e ++ [(32, iv .u8 o.tag), (1, [.slice o.kA o.kn o.kc])]
def OpR.c (o : OpR) : List Value := flat o.segs
def i64B (n : Int) : Prop := -9223372036854775808 ≤ n ∧ n ≤ 9223372036854775807
structure OpR.OK (w : World) (o : OpR) : Prop where
  d : i64B o.do_
  num : i64B o.num
  id : i64B o.id
  now : i64B o.now
  e : EnOK o.e o.A o.n o.cap o.b
  s : SrW w 1 o.A o.n (iv .u8 o.b)
  tl : o.tag.length = 32
  tb : bytes o.tag
  ks : SrW w 32 o.kA o.kn (o.ks.flatMap (iv .u8))
  kl : o.kn = o.ks.length
  k32 : ∀ k ∈ o.ks, k.length = 32
  kc : o.kn ≤ o.kc ∧ o.kc ≤ 9223372036854775807
theorem OpR.OK.len {w : World} {o : OpR} (h : o.OK w) : o.c.length = 106 := by
  simp [OpR.c, OpR.segs, enV, flat, iv_len, h.e.c, h.e.p, h.tl]
theorem wfu8b {l : List Int} (h : ∀ c ∈ l, (Lit.int .u8 c).wf = true) : bytes l := fun c hc => wf_u8 (h c hc)
theorem okD_keys {w : World} {A : Option Addr} {n cap : Nat} (h : okD w (.sl (.arr 32 (.int .u8))) [.slice A n cap]) : n ≤ cap ∧ cap ≤ maxLen ∧ ∃ ks : List (List Int), n = ks.length ∧ (∀ k ∈ ks, k.length = 32) ∧ (∀ k ∈ ks, bytes k) ∧ SrW w 32 A n (ks.flatMap (iv .u8)) := by
  obtain ⟨h1, h2, es, h3, h4, h5⟩ := okD_els (by decide) h
  obtain ⟨ks, rfl, hk⟩ := list_choose20 (f := iv .u8) (p := fun k => k.length = 32 ∧ bytes k) (es := es) fun e he => by
    obtain ⟨l, rfl, hl, hw⟩ := okD_arr (h4 e he).1
    exact ⟨l, rfl, hl, wfu8b hw⟩
  exact ⟨h1, h2, ks, by simpa using h3.symm, fun k hm => (hk k hm).1, fun k hm => (hk k hm).2, by rw [List.flatMap_def]; exact h5.mul⟩
theorem ops20_of {w : World} {A : Option Addr} {n cap : Nat} (h : okD w (.sl (.fcons (.int .i64) (.fcons (.int .i64) (.fcons (.int .i64) (.fcons (.int .i64) (.fcons (.fcons (.int .i64) (.fcons (.int .i64) (.fcons (.arr 32 (.int .u8)) (.fcons (.fcons (.arr 32 (.int .u8)) (.fcons (.int .i64) (.fcons (.int .i64) .fnil))) (.fcons (.sl (.int .u8)) .fnil))))) (.fcons (.arr 32 (.int .u8)) (.fcons (.sl (.arr 32 (.int .u8))) .fnil)))))))) [.slice A n cap]) :
    n ≤ cap ∧ cap ≤ maxLen ∧ ∃ l : List OpR, l.length = n ∧ SrW w 106 A n (l.flatMap OpR.c) ∧ ∀ o ∈ l, o.OK w := by
  obtain ⟨h1, h2, es, h3, h4, h5⟩ := okD_els (by decide) h
  obtain ⟨l, rfl, hl⟩ := list_choose20 (f := OpR.c) (p := OpR.OK w) (es := es) fun e he => by
    obtain ⟨x0, y0, rfl, ⟨a0, rfl, w0⟩, o1⟩ := okD_fcons (h4 e he).1
    obtain ⟨x1, y1, rfl, ⟨a1, rfl, w1⟩, o2⟩ := okD_fcons o1
    obtain ⟨x2, y2, rfl, ⟨a2, rfl, w2⟩, o3⟩ := okD_fcons o2
    obtain ⟨x3, y3, rfl, ⟨a3, rfl, w3⟩, o4⟩ := okD_fcons o3
    obtain ⟨x4, y4, rfl, oe, o5⟩ := okD_fcons o4
    obtain ⟨z0, u0, rfl, ⟨f0, rfl, v0⟩, q1⟩ := okD_fcons oe
    obtain ⟨z1, u1, rfl, ⟨f1, rfl, v1⟩, q2⟩ := okD_fcons q1
    obtain ⟨z2, u2, rfl, q2', q3⟩ := okD_fcons q2
    obtain ⟨cm, rfl, cml, cmb⟩ := okD_arr q2'
    obtain ⟨z3, u3, rfl, oh, q4⟩ := okD_fcons q3
    obtain ⟨g0, t0, rfl, r0, p1⟩ := okD_fcons oh
    obtain ⟨pu, rfl, pul, pub⟩ := okD_arr r0
    obtain ⟨g1, t1, rfl, ⟨hp0, rfl, k0⟩, p2⟩ := okD_fcons p1
    obtain ⟨g2, t2, rfl, ⟨hn0, rfl, k1⟩, p3⟩ := okD_fcons p2
    obtain rfl : t2 = [] := p3
    obtain ⟨z4, u4, rfl, qb, q5⟩ := okD_fcons q4
    obtain rfl : u4 = [] := q5
    obtain ⟨bA, bn, bc, rfl, _⟩ := id qb
    obtain ⟨b1, b2, bl, b3, b4⟩ := okD_ints qb
    obtain ⟨x5, y5, rfl, r5, o6⟩ := okD_fcons o5
    obtain ⟨tg, rfl, tgl, tgb⟩ := okD_arr r5
    obtain ⟨x6, y6, rfl, r6, o7⟩ := okD_fcons o6
    obtain rfl : y6 = [] := o7
    obtain ⟨kA, kn, kc, rfl, _⟩ := id r6
    obtain ⟨k1', k2', ks, k3, k4, k5, k6⟩ := okD_keys r6
    exact ⟨⟨a0, a1, a2, a3, ⟨f0, f1, cm, pu, hp0, hn0, .slice bA bn bc⟩, bA, bn, bc, bl, tg, kA, kn, kc, ks⟩, by simp [OpR.c, OpR.segs, enV, flat],
      wf_i64 w0, wf_i64 w1, wf_i64 w2, wf_i64 w3, ⟨rfl, cml, wfu8b cmb, pul, wfu8b pub, wfu8b b4, SrW.ilen b3, b1, by show bn ≤ _; unfold maxLen at b2; omega⟩, b3, tgl, wfu8b tgb, k6, k3, k4, k1', by show kc ≤ _; unfold maxLen at k2'; omega⟩
  exact ⟨h1, h2, l, by simpa using h3, by rw [List.flatMap_def]; exact h5.mul, hl⟩
end Go.Proofs.Ytmeckbjinmgbbaa