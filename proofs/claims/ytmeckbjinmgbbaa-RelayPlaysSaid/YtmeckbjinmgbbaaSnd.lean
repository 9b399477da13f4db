/- A relay: what comes of a Send, named. -/
import Derived.Test.YtmeckbjinmgbbaaLaws20
set_option linter.unusedVariables false
set_option linter.unusedSimpArgs false

namespace Go.Proofs.Ytmeckbjinmgbbaa
open Go.X
theorem zbytes {n : Nat} : bytes (List.replicate n 0) := fun c hc => by rw [List.eq_of_mem_replicate hc]; omega
theorem Sr.pastP {c : Cx} {L Lr M M0 : List (Nat × Blk)} {w w' : World} {s n : Nat} {A : Option Addr} {xs : List Value} (hp : HP c.w0 w c.O L) (h : HP w w' (M0.map (·.1)) M) (hdel : PR M0 L Lr := by exact pr) (hs : Sr c Lr s A n xs) : SrW w' s A n xs :=
  hs w' ((hp.transP hdel h).sub (List.sublist_append_right _ _))
structure SR where
  a : PAcc
  c : PAcc
  m : List Ent
  ck : Nat
  s : StampS
  k : Int
structure Snt (root : List Int) (ticks : Int) (a c : PAcc) (e : EnvS) (l tag : List Int) (now : Int) (r : SR) : Prop where
  oka : POK r.a
  okc : POK r.c
  pa : r.a.p = a.p
  pc : r.c.p = c.p
  xa : r.a.abs = sndA a.abs c.abs e l tag now
  xc : r.c.abs = sndC root ticks a.abs c.abs e l tag now
  g : Good root r.m
  ss : r.s = sndS root ticks a.abs c.abs e l tag now
  kk : r.k = sndE a.abs c.abs e l tag now
  sc : r.s.commit.length = 32
  st : r.s.tag.length = 32
section
variable {root : List Int} {ticks : Int} {a c : AAcc} {e : EnvS} {l tag : List Int} {now : Int}
theorem sndS_c (h : e.commit.length = 32) : (sndS root ticks a c e l tag now).commit.length = 32 := by
  unfold sndS; split
  · exact stampF_c h
  · rfl
theorem sndS_t : (sndS root ticks a c e l tag now).tag.length = 32 := by
  unfold sndS; split
  · exact stampF_t
  · rfl
end
section
variable {root : List Int} {ticks : Int} {a c : PAcc} {e : EnvS} {l tag : List Int} {now : Int} {r : SR}
/-- It went. -/
theorem Snt.ok (h : Snt root ticks a c e l tag now r) (h1 : tgL a.abs.link e l = tag) (h2 : a.abs.susp = false) (h3 : c.abs.ms.length < 8) (h4 : takeE 5 10 a.abs.t a.abs.n now = 0) :
    r.k = 0 ∧ r.s = stampF root ticks e now ∧ r.a.abs = { a.abs with t := takeT a.abs.t now, n := takeN 5 10 a.abs.t a.abs.n now } ∧ r.c.abs = c.abs.put e (stampF root ticks e now) l := by
  have h0 : sndR a.abs c.abs e l tag = 0 := by unfold sndR; rw [h2]; exact rt0 h1 (by omega)
  obtain ⟨e1, e2, e3, e4⟩ := snd_yes (root := root) (ticks := ticks) h0 h4
  exact ⟨h.kk.trans e1, h.ss.trans e2, h.xa.trans e3, h.xc.trans e4⟩
/-- No token. -/
theorem Snt.rate (h : Snt root ticks a c e l tag now r) (h1 : tgL a.abs.link e l = tag) (h2 : a.abs.susp = false) (h3 : c.abs.ms.length < 8) (h4 : takeE 5 10 a.abs.t a.abs.n now ≠ 0) :
    r.k = takeE 5 10 a.abs.t a.abs.n now ∧ r.s = StampS.zero ∧ r.a.abs = { a.abs with t := takeT a.abs.t now, n := takeN 5 10 a.abs.t a.abs.n now } ∧ r.c.abs = c.abs := by
  have h0 : sndR a.abs c.abs e l tag = 0 := by unfold sndR; rw [h2]; exact rt0 h1 (by omega)
  obtain ⟨e1, e2, e3, e4⟩ := snd_rate (root := root) (ticks := ticks) h0 h4
  exact ⟨h.kk.trans e1, h.ss.trans e2, h.xa.trans e3, h.xc.trans e4⟩
theorem Snt.no (h : Snt root ticks a c e l tag now r) {k : Int} (h0 : sndR a.abs c.abs e l tag = k) (hk : k ≠ 0) : r.k = k ∧ r.s = StampS.zero ∧ r.a.abs = a.abs ∧ r.c.abs = c.abs := by
  obtain ⟨e1, e2, e3, e4⟩ := snd_no (root := root) (ticks := ticks) (now := now) (show sndR a.abs c.abs e l tag ≠ 0 by rw [h0]; exact hk)
  exact ⟨by rw [h.kk, e1, h0], h.ss.trans e2, h.xa.trans e3, h.xc.trans e4⟩
/-- Another tag. -/
theorem Snt.mac (h : Snt root ticks a c e l tag now r) (h1 : tgL a.abs.link e l ≠ tag) : r.k = 4 ∧ r.s = StampS.zero ∧ r.a.abs = a.abs ∧ r.c.abs = c.abs :=
  h.no (k := 4) (rt4 h1) (by decide)
theorem Snt.gone (h : Snt root ticks a c e l tag now r) (h1 : tgL a.abs.link e l = tag) (h2 : a.abs.susp = true) : r.k = 11 ∧ r.s = StampS.zero ∧ r.a.abs = a.abs ∧ r.c.abs = c.abs :=
  h.no (k := 11) (by unfold sndR; rw [h2]; exact rt11 h1) (by decide)
theorem Snt.full (h : Snt root ticks a c e l tag now r) (h1 : tgL a.abs.link e l = tag) (h2 : a.abs.susp = false) (h3 : 8 ≤ c.abs.ms.length) : r.k = 8 ∧ r.s = StampS.zero ∧ r.a.abs = a.abs ∧ r.c.abs = c.abs :=
  h.no (k := 8) (by unfold sndR; rw [h2]; exact rt8 h1 h3) (by decide)
theorem Snt.link (h : Snt root ticks a c e l tag now r) : r.a.abs.link = a.abs.link := by rw [h.xa]; unfold sndA; split <;> rfl
theorem Snt.susp (h : Snt root ticks a c e l tag now r) : r.a.abs.susp = a.abs.susp := by rw [h.xa]; unfold sndA; split <;> rfl
theorem Snt.ams (h : Snt root ticks a c e l tag now r) : r.a.abs.ms = a.abs.ms := by rw [h.xa]; unfold sndA; split <;> rfl
theorem Snt.amany (h : Snt root ticks a c e l tag now r) : r.a.abs.many = a.abs.many := by rw [h.xa]; unfold sndA; split <;> rfl
theorem Snt.clink (h : Snt root ticks a c e l tag now r) : r.c.abs.link = c.abs.link := by rw [h.xc]; unfold sndC; split <;> rfl
theorem Snt.csusp (h : Snt root ticks a c e l tag now r) : r.c.abs.susp = c.abs.susp := by rw [h.xc]; unfold sndC; split <;> rfl
theorem Snt.ct (h : Snt root ticks a c e l tag now r) : r.c.abs.t = c.abs.t := by rw [h.xc]; unfold sndC; split <;> rfl
theorem Snt.cn (h : Snt root ticks a c e l tag now r) : r.c.abs.n = c.abs.n := by rw [h.xc]; unfold sndC; split <;> rfl
theorem Snt.cmany (h : Snt root ticks a c e l tag now r) : r.c.abs.many = c.abs.many ∨ r.c.abs.many = c.abs.many + 1 := by
  rw [h.xc]; unfold sndC; split
  · exact .inr rfl
  · exact .inl rfl
theorem stampF_yes {root : List Int} {ticks : Int} {e : EnvS} {now : Int} (h : mayB e now = true) : stampF root ticks e now = ⟨now / ticks, e.fr, e.to, now, e.commit, tagF root (stamp0 ticks e now)⟩ := if_pos h
theorem mayB_of {e : EnvS} {n : Nat} {now : Int} (hh : heB e n = true) (h : 0 ≤ now ∧ now ≤ 1000000) : mayB e now = true := by
  have hhb := heB_of hh
  simp only [mayB, timeB, acB, Bool.and_eq_true, decide_eq_true_eq]; omega
end

theorem snd20_calls (b : Nat) (R : Rel) (ticks : Int) (root : List Int) (hti : 1 ≤ ticks) (hrl : root.length = 32) (hrb : bytes root) (ps : List (Option Nat)) (h8 : ps.length = 8) (m : List Ent) (ck : Nat) (hg : Good root m) (e : EnvS) (A : Option Addr) (n cap : Nat) (l : List Int) (he : EnOK e A n cap l) (hh : heB e n = true) (tag : List Int) (htl : tag.length = 32) (htb : bytes tag) (now : Int) (hok : ¬ (e.fr = e.to ∨ now < 0 ∨ 1000000 < now)) (a c : PAcc) (hpa : POK a) (hpc : POK c) (hfr : ofP ps e.fr = some a.p) (hto : ofP ps e.to = some c.p) (hmany : c.many ≤ 1000000) (w : World) (hp0 : HP w w (((b, .cells (relS R.r ps) 110) :: (stpL R ticks root m ck ++ (accP a ++ accP c)) : List (Nat × Blk)).map (·.1)) ((b, .cells (relS R.r ps) 110) :: (stpL R ticks root m ck ++ (accP a ++ accP c)) : List (Nat × Blk))) (hs : ∀ w' M, HP w w' (((b, .cells (relS R.r ps) 110) :: (stpL R ticks root m ck ++ (accP a ++ accP c)) : List (Nat × Blk)).map (·.1)) M → SrW w' 1 A n (iv .u8 l)) :
    Calls Try.prog 15 [.pointer (some ⟨b, 0, none⟩), AG (enV e), AG [(32, iv .u8 tag)], .int .i64 now].toArray w fun e' w' => ∃ r : SR, Snt root ticks a c e l tag now r ∧ e' = .returned (.tuple #[AG (stV r.s), .int .i64 r.k]) ∧ HP w w' (((b, .cells (relS R.r ps) 110) :: (stpL R ticks root m ck ++ (accP a ++ accP c)) : List (Nat × Blk)).map (·.1)) ((b, .cells (relS R.r ps) 110) :: (stpL R ticks root r.m r.ck ++ (accP r.a ++ accP r.c)) : List (Nat × Blk)) :=
  (send20_calls b R ticks root hti hrl hrb ps h8 m ck hg e A n cap l he hh tag htl htb now hok a c hpa hpc hfr hto hmany w hp0 hs).mono fun e' w' ⟨r, ⟨h1, h2, h3, h4, h5, h6, h7⟩, h8, h9⟩ =>
    ⟨⟨r.1, r.2.1, r.2.2.1, r.2.2.2, _, _⟩, ⟨h1, h2, h3, h4, h5, h6, h7, rfl, rfl, sndS_c he.c, sndS_t⟩, h8, h9⟩
/-- A small envelope. -/
def vE (f t : Int) (A : Option Addr) : EnvS := ⟨f, t, List.replicate 32 0, List.replicate 32 0, 0, 0, .slice A 1 1⟩
theorem vE_ok {f t x : Int} {A : Option Addr} (hx : 0 ≤ x ∧ x ≤ 255) : EnOK (vE f t A) A 1 1 [x] := ⟨rfl, rfl, zbytes, rfl, zbytes, bytes_cons.2 ⟨hx, bytes_nil⟩, rfl, Nat.le_refl _, by decide⟩
theorem heB_mk {e : EnvS} {k : Nat} (h1 : 0 ≤ e.fr ∧ e.fr < 8) (h2 : 0 ≤ e.to ∧ e.to < 8) (h3 : 0 ≤ e.prev ∧ e.prev ≤ 1000000) (h4 : 0 ≤ e.n ∧ e.n ≤ 1000000) (h5 : k ≤ 600) : heB e k = true := by
  simp only [heB, hdB, acB, timeB, Bool.and_eq_true, decide_eq_true_eq]; omega
theorem vE_he {f t : Int} {A : Option Addr} (hf : 0 ≤ f ∧ f < 8) (ht : 0 ≤ t ∧ t < 8) : heB (vE f t A) 1 = true := by
  exact heB_mk (e := vE f t A) hf ht ⟨Int.le_refl _, by show (0 : Int) ≤ 1000000; decide⟩ ⟨Int.le_refl _, by show (0 : Int) ≤ 1000000; decide⟩ (by decide)
theorem tgL_A {k : List Int} {f t : Int} {A B : Option Addr} {l : List Int} : tgL k (vE f t A) l = tgL k (vE f t B) l := rfl
theorem tag_off {A : Option Addr} : tgL (lnk 1) (vE 1 2 A) [120] ≠ List.replicate 32 0 := by
  rw [tgL_A (B := none)]; decide +kernel
theorem Bgn.z {r : (Nat × Rel) × PAcc × PAcc × PAcc} (h : Bgn r) : r.2.1.many = 0 ∧ r.2.2.1.many = 0 ∧ r.2.2.2.many = 0 :=
  ⟨congrArg AAcc.many h.1.2, congrArg AAcc.many h.2.1.2, congrArg AAcc.many h.2.2.2⟩
theorem POK.len {a : PAcc} {ms : List ML} (h : ms.map (·.1) = a.abs.ms) : ms.length = a.abs.ms.length := by rw [← h, List.length_map]
theorem tk0 {now : Int} (h : 0 ≤ now ∧ now ≤ 1000000) : takeE 5 10 0 5 now = 0 := by
  have h1 : 0 ≤ now / 10 := Int.ediv_nonneg h.1 (by omega)
  unfold takeE lvF; rw [if_neg (by omega), if_neg (by omega), if_neg (by omega)]
end Go.Proofs.Ytmeckbjinmgbbaa