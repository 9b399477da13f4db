/- Layer 20: relays, whole: what calls do to all accounts. -/
import Derived.Test.YtmeckbjinmgbbaaR20b
import Derived.Test.YtmeckbjinmgbbaaOps
set_option linter.unusedVariables false
set_option linter.unusedSimpArgs false

namespace Go.Proofs.Ytmeckbjinmgbbaa
open Go.X
/-- A call that changes a part of what is told. -/
theorem frm {P : Program} {f : FuncId} {args : Array Value} {w : World} {O : List Nat} {L M0 Lr : List (Nat × Blk)} {ι : Type} {A : ι → Prop} {V : ι → Value} {M : ι → List (Nat × Blk)} (hp : HP w w O L) (hd : L.Perm (M0 ++ Lr))
    (hc : HP w w (M0.map (·.1)) M0 → Calls P f args w fun e w' => ∃ r : ι, A r ∧ e = .returned (V r) ∧ HP w w' (M0.map (·.1)) (M r)) : Calls P f args w fun e w' => ∃ r : ι, A r ∧ e = .returned (V r) ∧ HP w w' O (M r ++ Lr) :=
  (hc (HP.here hp (Cov.ofPerm hd))).mono fun e w' ⟨r, h1, h2, h3⟩ => ⟨r, h1, h2, hp.transP hd h3⟩
theorem frm0 {P : Program} {f : FuncId} {args : Array Value} {w : World} {O : List Nat} {L : List (Nat × Blk)} {v : Value} (hp : HP w w O L) (hc : Calls P f args w fun e w' => e = .returned v ∧ HP w w' [] []) : Calls P f args w fun e w' => e = .returned v ∧ HP w w' O L :=
  hc.mono fun e w' ⟨h2, h3⟩ => ⟨h2, hp.transP (M0 := []) (.refl _) h3⟩
def fo (f : PAcc → List (Nat × Blk)) : Option PAcc → List (Nat × Blk)
  | some a => f a
  | none => []
def accs (f : PAcc → List (Nat × Blk)) (qs : List (Option PAcc)) : List (Nat × Blk) := qs.flatMap (fo f)
theorem accs_split {f : PAcc → List (Nat × Blk)} : ∀ {qs : List (Option PAcc)} {k : Nat} {q : Option PAcc}, qs[k]? = some q → (accs f qs).Perm (fo f q ++ accs f (qs.set k none))
  | [], k, q, h => by simp at h
  | x :: l, 0, q, h => by
    simp at h; subst h
    simp [accs, fo]
  | x :: l, k + 1, q, h => by
    have ih := accs_split (f := f) (qs := l) (k := k) (q := q) (by simpa using h)
    unfold accs at ih ⊢
    rw [List.flatMap_cons, List.set_cons_succ, List.flatMap_cons]
    exact (List.Perm.append_left _ ih).trans (by rw [← List.append_assoc, ← List.append_assoc]; exact List.perm_append_comm.append_right _)
def psO (qs : List (Option PAcc)) : List (Option Nat) := qs.map (·.map PAcc.p)
def absO (qs : List (Option PAcc)) : List (Option AAcc) := qs.map (·.map PAcc.abs)
theorem ofP_psO {qs : List (Option PAcc)} {n : Int} : ofP (psO qs) n = (ofP qs n).map PAcc.p := ofP_map
theorem ofP_absO {qs : List (Option PAcc)} {n : Int} : ofP (absO qs) n = (ofP qs n).map PAcc.abs := ofP_map
theorem psO_set {qs : List (Option PAcc)} {k : Nat} {q : Option PAcc} : psO (qs.set k q) = (psO qs).set k (q.map PAcc.p) := by unfold psO; rw [List.map_set]
theorem absO_set {qs : List (Option PAcc)} {k : Nat} {q : Option PAcc} : absO (qs.set k q) = (absO qs).set k (q.map PAcc.abs) := by unfold absO; rw [List.map_set]
theorem psO_same {qs : List (Option PAcc)} {k : Nat} {a a' : PAcc} (h : qs[k]? = some (some a)) (hp : a'.p = a.p) : psO (qs.set k (some a')) = psO qs := by
  rw [psO_set]
  have h2 : (psO qs)[k]? = some (some a.p) := by unfold psO; rw [List.getElem?_map, h]; rfl
  obtain ⟨h3, h4⟩ := List.getElem?_eq_some_iff.1 h2
  show (psO qs).set k (some a'.p) = _
  rw [hp, ← h4, List.set_getElem_self]
/-- What the accounts keep to. -/
structure QOK (ok : PAcc → Prop) (k : Int) (qs : List (Option PAcc)) : Prop where
  len : qs.length = 8
  all : ∀ a, some a ∈ qs → ok a ∧ a.many ≤ k
theorem QOK.at_ {ok : PAcc → Prop} {k : Int} {qs : List (Option PAcc)} (h : QOK ok k qs) {n : Int} {a : PAcc} (hn : ofP qs n = some a) : (ok a ∧ a.many ≤ k) ∧ qs[n.toNat]? = some (some a) ∧ (0 ≤ n ∧ n < 8) := by
  obtain ⟨h1, h2⟩ := ofP_yes hn
  exact ⟨h.all a (List.mem_of_getElem? h2), h2, h1⟩
theorem QOK.set {ok : PAcc → Prop} {k k' : Int} {qs : List (Option PAcc)} (h : QOK ok k qs) (i : Nat) {a : PAcc} (ha : ok a) (hk : k ≤ k') (hm : a.many ≤ k') : QOK ok k' (qs.set i (some a)) :=
  ⟨by rw [List.length_set]; exact h.len, fun x hx => by
    rcases List.mem_or_eq_of_mem_set hx with hx | hx
    · exact ⟨(h.all x hx).1, by have := (h.all x hx).2; omega⟩
    · cases hx; exact ⟨ha, hm⟩⟩
theorem QOK.mono {ok : PAcc → Prop} {k k' : Int} {qs : List (Option PAcc)} (h : QOK ok k qs) (hk : k ≤ k') : QOK ok k' qs := ⟨h.len, fun a ha => ⟨(h.all a ha).1, by have := (h.all a ha).2; omega⟩⟩
theorem QOK.p8 {ok : PAcc → Prop} {k : Int} {qs : List (Option PAcc)} (h : QOK ok k qs) : (psO qs).length = 8 := by unfold psO; rw [List.length_map]; exact h.len
theorem QOK.new {ok : PAcc → Prop} : QOK ok 0 (List.replicate 8 none) := ⟨rfl, fun a ha => by have := List.eq_of_mem_replicate ha; cases this⟩
/-- What is yielded, told of accounts as they are. -/
def regE (Q : List (Option AAcc)) (n : Int) (len : Nat) : Int := if ¬ (0 ≤ n ∧ n < 8) ∨ 8 < len then 1 else match ofP Q n with | some _ => 9 | none => 0
def regQ (Q : List (Option AAcc)) (n : Int) (len : Nat) (a : AAcc) : List (Option AAcc) := if regE Q n len = 0 then Q.set n.toNat (some a) else Q
structure BunS where
  idn : List Int
  sig : List Int
  k : List Int
  h : Bool
def BunS.V (s : BunS) : List Seg := bunV s.idn s.sig s.k s.h
def bunS (a : AAcc) : BunS := match a.once with
  | [] => ⟨a.idn, a.sig, List.replicate 32 0, false⟩
  | k :: _ => ⟨a.idn, a.sig, k, true⟩
theorem bunS_V {a : AAcc} : (bunS a).V = bunA a := by unfold bunS bunA; split <;> simp_all [BunS.V]
def fetS (Q : List (Option AAcc)) (n : Int) : BunS := match ofP Q n with
  | some a => bunS a
  | none => ⟨List.replicate 32 0, List.replicate 32 0, List.replicate 32 0, false⟩
def nonE (Q : List (Option AAcc)) (n : Int) : Int := match ofP Q n with
  | some _ => 0
  | none => 7
def updQ (Q : List (Option AAcc)) (n : Int) (f : AAcc → AAcc) : List (Option AAcc) := match ofP Q n with
  | some a => Q.set n.toNat (some (f a))
  | none => Q
def ackV (Q : List (Option AAcc)) (n id : Int) : Int := match ofP Q n with
  | some a => ackE a.ms a.many id
  | none => 7
/-- Everything of a Send: the answer, the stamp, the accounts. -/
def wsE (Q : List (Option AAcc)) (e : EnvS) (k : Nat) (l tag : List Int) (now : Int) : Int :=
  if heB e k = false ∨ e.fr = e.to ∨ now < 0 ∨ 1000000 < now then 1 else match ofP Q e.fr, ofP Q e.to with
  | some a, some c => sndE a c e l tag now
  | _, _ => 7
def wsS (root : List Int) (ticks : Int) (Q : List (Option AAcc)) (e : EnvS) (k : Nat) (l tag : List Int) (now : Int) : StampS :=
  if heB e k = false ∨ e.fr = e.to ∨ now < 0 ∨ 1000000 < now then StampS.zero else match ofP Q e.fr, ofP Q e.to with
  | some a, some c => sndS root ticks a c e l tag now
  | _, _ => StampS.zero
def wsQ (root : List Int) (ticks : Int) (Q : List (Option AAcc)) (e : EnvS) (k : Nat) (l tag : List Int) (now : Int) : List (Option AAcc) :=
  if heB e k = false ∨ e.fr = e.to ∨ now < 0 ∨ 1000000 < now then Q else match ofP Q e.fr, ofP Q e.to with
  | some a, some c => (Q.set e.fr.toNat (some (sndA a c e l tag now))).set e.to.toNat (some (sndC root ticks a c e l tag now))
  | _, _ => Q
theorem wsS_c {root : List Int} {ticks : Int} {Q : List (Option AAcc)} {e : EnvS} {k : Nat} {l tag : List Int} {now : Int} (h : e.commit.length = 32) : (wsS root ticks Q e k l tag now).commit.length = 32 := by
  unfold wsS; split
  · rfl
  · split
    · exact sndS_c h
    · rfl
theorem wsS_t {root : List Int} {ticks : Int} {Q : List (Option AAcc)} {e : EnvS} {k : Nat} {l tag : List Int} {now : Int} : (wsS root ticks Q e k l tag now).tag.length = 32 := by
  unfold wsS; split
  · rfl
  · split
    · exact sndS_t
    · rfl
theorem ofP_none_set {qs : List (Option PAcc)} {n : Int} (h8 : qs.length = 8) (hn : 0 ≤ n ∧ n < 8) (h : ofP qs n = none) : qs[n.toNat]? = some none := by
  rcases ofP_no h8 h with h | h
  · exact absurd hn h
  · exact h.2

theorem fet20W (b : Nat) (R : Rel) (qs : List (Option PAcc)) (k : Int) (hq : QOK POK k qs) (n : Int) (w : World) (hp0 : HP w w (((b, .cells (relS R.r (psO qs)) 110) :: accs accP qs).map (·.1)) ((b, .cells (relS R.r (psO qs)) 110) :: accs accP qs)) :
    Calls Try.prog 20 [.pointer (some ⟨b, 0, none⟩), .int .i64 n].toArray w fun e w' => ∃ qs' : List (Option PAcc), (QOK POK k qs' ∧ absO qs' = updQ (absO qs) n fetL) ∧ e = .returned (.tuple #[AG (fetS (absO qs) n).V, .int .i64 (nonE (absO qs) n)]) ∧ HP w w' (((b, .cells (relS R.r (psO qs)) 110) :: accs accP qs).map (·.1)) ((b, .cells (relS R.r (psO qs')) 110) :: accs accP qs') := by
  cases h : ofP qs n with
  | none =>
    have h2 : ofP (psO qs) n = none := by rw [ofP_psO, h]; rfl
    have h3 : ofP (absO qs) n = none := by rw [ofP_absO, h]; rfl
    refine (frm0 hp0 (fet20_none R.r b (psO qs) hq.p8 n h2 w (HP.atw hp0 List.mem_cons_self))).mono fun e w' ⟨h4, h5⟩ => ⟨qs, ⟨hq, by unfold updQ; rw [h3]⟩, ?_, h5⟩
    rw [h4]; unfold fetS nonE; rw [h3]; try rfl
  | some a =>
    obtain ⟨⟨ha, hm⟩, hs, hn⟩ := hq.at_ h
    have h2 : ofP (psO qs) n = some a.p := by rw [ofP_psO, h]; rfl
    have h3 : ofP (absO qs) n = some a.abs := by rw [ofP_absO, h]; rfl
    refine (frm hp0 (M0 := (b, .cells (relS R.r (psO qs)) 110) :: accP a) (Lr := accs accP (qs.set n.toNat none)) (List.Perm.cons _ (accs_split hs)) fun hp => fet20_calls R.r b (psO qs) hq.p8 n a ha h2 w hp).mono fun e w' ⟨a', ⟨h4, h5, h6⟩, h7, h8⟩ => ⟨qs.set n.toNat (some a'), ⟨hq.set _ h4 (Int.le_refl _) (by rw [show a'.many = a.many from congrArg AAcc.many h6]; exact hm), ?_⟩, ?_, ?_⟩
    · rw [absO_set]; unfold updQ; rw [h3]; show (absO qs).set _ (some a'.abs) = _; rw [h6]
    · rw [h7]; unfold fetS nonE; rw [h3]; rw [bunS_V]; try rfl
    · rw [psO_same hs h5]
      refine h8.perm (List.Perm.cons _ ?_)
      have h9 := accs_split (f := accP) (qs := qs.set n.toNat (some a')) (k := n.toNat) (q := some a') (by rw [List.getElem?_set_self (by rw [hq.len]; omega)])
      rw [List.set_set] at h9
      exact h9

theorem ack20W (b : Nat) (R : Rel) (qs : List (Option PAcc)) (k : Int) (hq : QOK POK k qs) (n : Int) (id : Int) (w : World) (hp0 : HP w w (((b, .cells (relS R.r (psO qs)) 110) :: accs accP qs).map (·.1)) ((b, .cells (relS R.r (psO qs)) 110) :: accs accP qs)) :
    Calls Try.prog 25 [.pointer (some ⟨b, 0, none⟩), .int .i64 n, .int .i64 id].toArray w fun e w' => ∃ qs' : List (Option PAcc), (QOK POK k qs' ∧ absO qs' = updQ (absO qs) n (fun a => ackA a id)) ∧ e = .returned (.int .i64 (ackV (absO qs) n id)) ∧ HP w w' (((b, .cells (relS R.r (psO qs)) 110) :: accs accP qs).map (·.1)) ((b, .cells (relS R.r (psO qs')) 110) :: accs accP qs') := by
  cases h : ofP qs n with
  | none =>
    have h2 : ofP (psO qs) n = none := by rw [ofP_psO, h]; rfl
    have h3 : ofP (absO qs) n = none := by rw [ofP_absO, h]; rfl
    refine (frm0 hp0 (ack20_none R.r b (psO qs) hq.p8 n id h2 w (HP.atw hp0 List.mem_cons_self))).mono fun e w' ⟨h4, h5⟩ => ⟨qs, ⟨hq, by unfold updQ; rw [h3]⟩, ?_, h5⟩
    rw [h4]; unfold ackV; rw [h3]; try rfl
  | some a =>
    obtain ⟨⟨ha, hm⟩, hs, hn⟩ := hq.at_ h
    have h2 : ofP (psO qs) n = some a.p := by rw [ofP_psO, h]; rfl
    have h3 : ofP (absO qs) n = some a.abs := by rw [ofP_absO, h]; rfl
    refine (frm hp0 (M0 := (b, .cells (relS R.r (psO qs)) 110) :: accP a) (Lr := accs accP (qs.set n.toNat none)) (List.Perm.cons _ (accs_split hs)) fun hp => ack20_calls R.r b (psO qs) hq.p8 n a ha h2 id w hp).mono fun e w' ⟨a', ⟨h4, h5, h6⟩, h7, h8⟩ => ⟨qs.set n.toNat (some a'), ⟨hq.set _ h4 (Int.le_refl _) (by rw [show a'.many = a.many from congrArg AAcc.many h6]; exact hm), ?_⟩, ?_, ?_⟩
    · rw [absO_set]; unfold updQ; rw [h3]; show (absO qs).set _ (some a'.abs) = _; rw [h6]
    · rw [h7]; unfold ackV; rw [h3]; try rfl
    · rw [psO_same hs h5]
      refine h8.perm (List.Perm.cons _ ?_)
      have h9 := accs_split (f := accP) (qs := qs.set n.toNat (some a')) (k := n.toNat) (q := some a') (by rw [List.getElem?_set_self (by rw [hq.len]; omega)])
      rw [List.set_set] at h9
      exact h9

theorem sus20W (b : Nat) (R : Rel) (qs : List (Option PAcc)) (k : Int) (hq : QOK POK k qs) (n : Int) (is : Bool) (w : World) (hp0 : HP w w (((b, .cells (relS R.r (psO qs)) 110) :: accs accP qs).map (·.1)) ((b, .cells (relS R.r (psO qs)) 110) :: accs accP qs)) :
    Calls Try.prog 22 [.pointer (some ⟨b, 0, none⟩), .int .i64 n, .bool is].toArray w fun e w' => ∃ qs' : List (Option PAcc), (QOK POK k qs' ∧ absO qs' = updQ (absO qs) n (fun a => susL a is)) ∧ e = .returned (.int .i64 (nonE (absO qs) n)) ∧ HP w w' (((b, .cells (relS R.r (psO qs)) 110) :: accs accP qs).map (·.1)) ((b, .cells (relS R.r (psO qs')) 110) :: accs accP qs') := by
  cases h : ofP qs n with
  | none =>
    have h2 : ofP (psO qs) n = none := by rw [ofP_psO, h]; rfl
    have h3 : ofP (absO qs) n = none := by rw [ofP_absO, h]; rfl
    refine (frm0 hp0 (sus20_none R.r b (psO qs) hq.p8 n is h2 w (HP.atw hp0 List.mem_cons_self))).mono fun e w' ⟨h4, h5⟩ => ⟨qs, ⟨hq, by unfold updQ; rw [h3]⟩, ?_, h5⟩
    rw [h4]; unfold nonE; rw [h3]; try rfl
  | some a =>
    obtain ⟨⟨ha, hm⟩, hs, hn⟩ := hq.at_ h
    have h2 : ofP (psO qs) n = some a.p := by rw [ofP_psO, h]; rfl
    have h3 : ofP (absO qs) n = some a.abs := by rw [ofP_absO, h]; rfl
    refine (frm hp0 (M0 := (b, .cells (relS R.r (psO qs)) 110) :: accP a) (Lr := accs accP (qs.set n.toNat none)) (List.Perm.cons _ (accs_split hs)) fun hp => sus20_calls R.r b (psO qs) hq.p8 n a ha h2 is w hp).mono fun e w' ⟨a', ⟨h4, h5, h6⟩, h7, h8⟩ => ⟨qs.set n.toNat (some a'), ⟨hq.set _ h4 (Int.le_refl _) (by rw [show a'.many = a.many from congrArg AAcc.many h6]; exact hm), ?_⟩, ?_, ?_⟩
    · rw [absO_set]; unfold updQ; rw [h3]; show (absO qs).set _ (some a'.abs) = _; rw [h6]
    · rw [h7]; unfold nonE; rw [h3]; try rfl
    · rw [psO_same hs h5]
      refine h8.perm (List.Perm.cons _ ?_)
      have h9 := accs_split (f := accP) (qs := qs.set n.toNat (some a')) (k := n.toNat) (q := some a') (by rw [List.getElem?_set_self (by rw [hq.len]; omega)])
      rw [List.set_set] at h9
      exact h9

theorem reg20W (b : Nat) (R : Rel) (qs : List (Option PAcc)) (k : Int) (hq : QOK POK k qs) (n : Int) (link idn sig b3 : List Int) (hs3 : Bool) (A : Option Addr) (len cap : Nat) (ks : List (List Int)) (hl : link.length = 32) (hlb : bytes link) (hil : idn.length = 32) (hsl : sig.length = 32) (hbl : b3.length = 32) (hlen : len = ks.length) (hcap : len ≤ cap) (hkl : ∀ k ∈ ks, k.length = 32) (w : World) (hp0 : HP w w (((b, .cells (relS R.r (psO qs)) 110) :: accs accP qs).map (·.1)) ((b, .cells (relS R.r (psO qs)) 110) :: accs accP qs)) (hs : ∀ w' M, HP w w' (((b, .cells (relS R.r (psO qs)) 110) :: accs accP qs).map (·.1)) M → SrW w' 32 A len (ks.flatMap (iv .u8))) (hk0 : 0 ≤ k) :
    Calls Try.prog 18 [.pointer (some ⟨b, 0, none⟩), .int .i64 n, AG [(32, iv .u8 link)], AG (bunV idn sig b3 hs3), .slice A len cap].toArray w fun e w' => ∃ qs' : List (Option PAcc), (QOK POK k qs' ∧ absO qs' = regQ (absO qs) n len (AAcc.new link idn sig ks)) ∧ e = .returned (.int .i64 (regE (absO qs) n len)) ∧ HP w w' (((b, .cells (relS R.r (psO qs)) 110) :: accs accP qs).map (·.1)) ((b, .cells (relS R.r (psO qs')) 110) :: accs accP qs') := by
  by_cases hbad : ¬ (0 ≤ n ∧ n < 8) ∨ 8 < len
  · have e1 : regE (absO qs) n len = 1 := if_pos hbad
    refine (frm0 hp0 (reg20_bad R.r b (psO qs) hq.p8 n link idn sig b3 hs3 A len cap ks hl hlb hil hsl hbl hbad w)).mono fun e w' ⟨h4, h5⟩ => ⟨qs, ⟨hq, ?_⟩, ?_, h5⟩
    · unfold regQ; rw [e1]; rfl
    · rw [h4, e1]
  · have hn : 0 ≤ n ∧ n < 8 := by omega
    cases h : ofP qs n with
    | some a =>
      have e1 : regE (absO qs) n len = 9 := by unfold regE; rw [if_neg hbad, ofP_absO, h]; rfl
      obtain ⟨_, hs2, _⟩ := hq.at_ h
      refine (frm0 hp0 (reg20_twice R.r b (psO qs) hq.p8 n link idn sig b3 hs3 A len cap ks hl hlb hil hsl hbl a.p hn (by unfold psO; rw [List.getElem?_map, hs2]; rfl) (by omega) w (HP.atw hp0 List.mem_cons_self))).mono fun e w' ⟨h4, h5⟩ => ⟨qs, ⟨hq, ?_⟩, ?_, h5⟩
      · unfold regQ; rw [e1]; rfl
      · rw [h4, e1]
    | none =>
      have e1 : regE (absO qs) n len = 0 := by unfold regE; rw [if_neg hbad, ofP_absO, h]; rfl
      have hs2 := ofP_none_set hq.len hn h
      refine (frm hp0 (M0 := [(b, .cells (relS R.r (psO qs)) 110)]) (Lr := accs accP qs) (.refl _) fun hp => reg20_calls R.r b (psO qs) hq.p8 n link idn sig b3 hs3 A len cap ks hl hlb hil hsl hbl hn (by unfold psO; rw [List.getElem?_map, hs2]; rfl) hlen hcap (by omega) hkl w hp (fun w1 M h1 => hs w1 _ (hp0.transP (M0 := [(b, .cells (relS R.r (psO qs)) 110)]) (Lr := accs accP qs) (.refl _) h1))).mono fun e w' ⟨a', ⟨h4, h6⟩, h7, h8⟩ => ⟨qs.set n.toNat (some a'), ⟨hq.set _ h4 (Int.le_refl _) (by rw [show a'.many = 0 from congrArg AAcc.many h6]; exact hk0), ?_⟩, ?_, ?_⟩
      · rw [absO_set]; unfold regQ; rw [e1]; show (absO qs).set _ (some a'.abs) = _; rw [h6]; rfl
      · rw [h7, e1]
      · rw [psO_set]
        refine h8.perm (List.Perm.cons _ ?_)
        have h9 := accs_split (f := accP) (qs := qs.set n.toNat (some a')) (k := n.toNat) (q := some a') (by rw [List.getElem?_set_self (by rw [hq.len]; omega)])
        rw [List.set_set] at h9
        obtain ⟨g1, g2⟩ := List.getElem?_eq_some_iff.1 hs2
        have h10 : qs.set n.toNat none = qs := by rw [← g2, List.set_getElem_self]
        rw [h10] at h9
        exact h9

theorem rfet20W (root : List Int) (hrl : root.length = 32) (ticks : Int) (b : Nat) (qs : List (Option PAcc)) (k : Int) (hq : QOK AOK k qs) (n : Int) (w : World) (hp0 : HP w w (((b, .cells (rlS root ticks (psO qs)) 130) :: accs accR qs).map (·.1)) ((b, .cells (rlS root ticks (psO qs)) 130) :: accs accR qs)) :
    Calls Try.prog 58 [.pointer (some ⟨b, 0, none⟩), .int .i64 n].toArray w fun e w' => ∃ qs' : List (Option PAcc), (QOK AOK k qs' ∧ absO qs' = updQ (absO qs) n fetL) ∧ e = .returned (.tuple #[AG (fetS (absO qs) n).V, .int .i64 (nonE (absO qs) n)]) ∧ HP w w' (((b, .cells (rlS root ticks (psO qs)) 130) :: accs accR qs).map (·.1)) ((b, .cells (rlS root ticks (psO qs')) 130) :: accs accR qs') := by
  cases h : ofP qs n with
  | none =>
    have h2 : ofP (psO qs) n = none := by rw [ofP_psO, h]; rfl
    have h3 : ofP (absO qs) n = none := by rw [ofP_absO, h]; rfl
    refine (frm0 hp0 (rfet20_none root hrl ticks b (psO qs) hq.p8 n h2 w (HP.atw hp0 List.mem_cons_self))).mono fun e w' ⟨h4, h5⟩ => ⟨qs, ⟨hq, by unfold updQ; rw [h3]⟩, ?_, h5⟩
    rw [h4]; unfold fetS nonE; rw [h3]; try rfl
  | some a =>
    obtain ⟨⟨ha, hm⟩, hs, hn⟩ := hq.at_ h
    have h2 : ofP (psO qs) n = some a.p := by rw [ofP_psO, h]; rfl
    have h3 : ofP (absO qs) n = some a.abs := by rw [ofP_absO, h]; rfl
    refine (frm hp0 (M0 := (b, .cells (rlS root ticks (psO qs)) 130) :: accR a) (Lr := accs accR (qs.set n.toNat none)) (List.Perm.cons _ (accs_split hs)) fun hp => rfet20_calls root hrl ticks b (psO qs) hq.p8 n a ha h2 w hp).mono fun e w' ⟨a', ⟨h4, h5, h6⟩, h7, h8⟩ => ⟨qs.set n.toNat (some a'), ⟨hq.set _ h4 (Int.le_refl _) (by rw [show a'.many = a.many from congrArg AAcc.many h6]; exact hm), ?_⟩, ?_, ?_⟩
    · rw [absO_set]; unfold updQ; rw [h3]; show (absO qs).set _ (some a'.abs) = _; rw [h6]
    · rw [h7]; unfold fetS nonE; rw [h3]; rw [bunS_V]; try rfl
    · rw [psO_same hs h5]
      refine h8.perm (List.Perm.cons _ ?_)
      have h9 := accs_split (f := accR) (qs := qs.set n.toNat (some a')) (k := n.toNat) (q := some a') (by rw [List.getElem?_set_self (by rw [hq.len]; omega)])
      rw [List.set_set] at h9
      exact h9

theorem rack20W (root : List Int) (hrl : root.length = 32) (ticks : Int) (b : Nat) (qs : List (Option PAcc)) (k : Int) (hq : QOK AOK k qs) (n : Int) (id : Int) (w : World) (hp0 : HP w w (((b, .cells (rlS root ticks (psO qs)) 130) :: accs accR qs).map (·.1)) ((b, .cells (rlS root ticks (psO qs)) 130) :: accs accR qs)) :
    Calls Try.prog 59 [.pointer (some ⟨b, 0, none⟩), .int .i64 n, .int .i64 id].toArray w fun e w' => ∃ qs' : List (Option PAcc), (QOK AOK k qs' ∧ absO qs' = updQ (absO qs) n (fun a => ackA a id)) ∧ e = .returned (.int .i64 (ackV (absO qs) n id)) ∧ HP w w' (((b, .cells (rlS root ticks (psO qs)) 130) :: accs accR qs).map (·.1)) ((b, .cells (rlS root ticks (psO qs')) 130) :: accs accR qs') := by
  cases h : ofP qs n with
  | none =>
    have h2 : ofP (psO qs) n = none := by rw [ofP_psO, h]; rfl
    have h3 : ofP (absO qs) n = none := by rw [ofP_absO, h]; rfl
    refine (frm0 hp0 (rack20_none root hrl ticks b (psO qs) hq.p8 n id h2 w (HP.atw hp0 List.mem_cons_self))).mono fun e w' ⟨h4, h5⟩ => ⟨qs, ⟨hq, by unfold updQ; rw [h3]⟩, ?_, h5⟩
    rw [h4]; unfold ackV; rw [h3]; try rfl
  | some a =>
    obtain ⟨⟨ha, hm⟩, hs, hn⟩ := hq.at_ h
    have h2 : ofP (psO qs) n = some a.p := by rw [ofP_psO, h]; rfl
    have h3 : ofP (absO qs) n = some a.abs := by rw [ofP_absO, h]; rfl
    refine (frm hp0 (M0 := (b, .cells (rlS root ticks (psO qs)) 130) :: accR a) (Lr := accs accR (qs.set n.toNat none)) (List.Perm.cons _ (accs_split hs)) fun hp => rack20_calls root hrl ticks b (psO qs) hq.p8 n a ha h2 id w hp).mono fun e w' ⟨a', ⟨h4, h5, h6⟩, h7, h8⟩ => ⟨qs.set n.toNat (some a'), ⟨hq.set _ h4 (Int.le_refl _) (by rw [show a'.many = a.many from congrArg AAcc.many h6]; exact hm), ?_⟩, ?_, ?_⟩
    · rw [absO_set]; unfold updQ; rw [h3]; show (absO qs).set _ (some a'.abs) = _; rw [h6]
    · rw [h7]; unfold ackV; rw [h3]; try rfl
    · rw [psO_same hs h5]
      refine h8.perm (List.Perm.cons _ ?_)
      have h9 := accs_split (f := accR) (qs := qs.set n.toNat (some a')) (k := n.toNat) (q := some a') (by rw [List.getElem?_set_self (by rw [hq.len]; omega)])
      rw [List.set_set] at h9
      exact h9

theorem rsus20W (root : List Int) (hrl : root.length = 32) (ticks : Int) (b : Nat) (qs : List (Option PAcc)) (k : Int) (hq : QOK AOK k qs) (n : Int) (is : Bool) (w : World) (hp0 : HP w w (((b, .cells (rlS root ticks (psO qs)) 130) :: accs accR qs).map (·.1)) ((b, .cells (rlS root ticks (psO qs)) 130) :: accs accR qs)) :
    Calls Try.prog 60 [.pointer (some ⟨b, 0, none⟩), .int .i64 n, .bool is].toArray w fun e w' => ∃ qs' : List (Option PAcc), (QOK AOK k qs' ∧ absO qs' = updQ (absO qs) n (fun a => susL a is)) ∧ e = .returned (.int .i64 (nonE (absO qs) n)) ∧ HP w w' (((b, .cells (rlS root ticks (psO qs)) 130) :: accs accR qs).map (·.1)) ((b, .cells (rlS root ticks (psO qs')) 130) :: accs accR qs') := by
  cases h : ofP qs n with
  | none =>
    have h2 : ofP (psO qs) n = none := by rw [ofP_psO, h]; rfl
    have h3 : ofP (absO qs) n = none := by rw [ofP_absO, h]; rfl
    refine (frm0 hp0 (rsus20_none root hrl ticks b (psO qs) hq.p8 n is h2 w (HP.atw hp0 List.mem_cons_self))).mono fun e w' ⟨h4, h5⟩ => ⟨qs, ⟨hq, by unfold updQ; rw [h3]⟩, ?_, h5⟩
    rw [h4]; unfold nonE; rw [h3]; try rfl
  | some a =>
    obtain ⟨⟨ha, hm⟩, hs, hn⟩ := hq.at_ h
    have h2 : ofP (psO qs) n = some a.p := by rw [ofP_psO, h]; rfl
    have h3 : ofP (absO qs) n = some a.abs := by rw [ofP_absO, h]; rfl
    refine (frm hp0 (M0 := (b, .cells (rlS root ticks (psO qs)) 130) :: accR a) (Lr := accs accR (qs.set n.toNat none)) (List.Perm.cons _ (accs_split hs)) fun hp => rsus20_calls root hrl ticks b (psO qs) hq.p8 n a ha h2 is w hp).mono fun e w' ⟨a', ⟨h4, h5, h6⟩, h7, h8⟩ => ⟨qs.set n.toNat (some a'), ⟨hq.set _ h4 (Int.le_refl _) (by rw [show a'.many = a.many from congrArg AAcc.many h6]; exact hm), ?_⟩, ?_, ?_⟩
    · rw [absO_set]; unfold updQ; rw [h3]; show (absO qs).set _ (some a'.abs) = _; rw [h6]
    · rw [h7]; unfold nonE; rw [h3]; try rfl
    · rw [psO_same hs h5]
      refine h8.perm (List.Perm.cons _ ?_)
      have h9 := accs_split (f := accR) (qs := qs.set n.toNat (some a')) (k := n.toNat) (q := some a') (by rw [List.getElem?_set_self (by rw [hq.len]; omega)])
      rw [List.set_set] at h9
      exact h9

theorem rreg20W (root : List Int) (hrl : root.length = 32) (ticks : Int) (b : Nat) (qs : List (Option PAcc)) (k : Int) (hq : QOK AOK k qs) (n : Int) (link idn sig b3 : List Int) (hs3 : Bool) (A : Option Addr) (len cap : Nat) (ks : List (List Int)) (hl : link.length = 32) (hlb : bytes link) (hil : idn.length = 32) (hsl : sig.length = 32) (hbl : b3.length = 32) (hlen : len = ks.length) (hcap : len ≤ cap) (hkl : ∀ k ∈ ks, k.length = 32) (w : World) (hp0 : HP w w (((b, .cells (rlS root ticks (psO qs)) 130) :: accs accR qs).map (·.1)) ((b, .cells (rlS root ticks (psO qs)) 130) :: accs accR qs)) (hs : ∀ w' M, HP w w' (((b, .cells (rlS root ticks (psO qs)) 130) :: accs accR qs).map (·.1)) M → SrW w' 32 A len (ks.flatMap (iv .u8))) (hk0 : 0 ≤ k) :
    Calls Try.prog 57 [.pointer (some ⟨b, 0, none⟩), .int .i64 n, AG [(32, iv .u8 link)], AG (bunV idn sig b3 hs3), .slice A len cap].toArray w fun e w' => ∃ qs' : List (Option PAcc), (QOK AOK k qs' ∧ absO qs' = regQ (absO qs) n len (AAcc.new link idn sig ks)) ∧ e = .returned (.int .i64 (regE (absO qs) n len)) ∧ HP w w' (((b, .cells (rlS root ticks (psO qs)) 130) :: accs accR qs).map (·.1)) ((b, .cells (rlS root ticks (psO qs')) 130) :: accs accR qs') := by
  by_cases hbad : ¬ (0 ≤ n ∧ n < 8) ∨ 8 < len
  · have e1 : regE (absO qs) n len = 1 := if_pos hbad
    refine (frm0 hp0 (rreg20_bad root hrl ticks b (psO qs) hq.p8 n link idn sig b3 hs3 A len cap ks hl hlb hil hsl hbl hbad w)).mono fun e w' ⟨h4, h5⟩ => ⟨qs, ⟨hq, ?_⟩, ?_, h5⟩
    · unfold regQ; rw [e1]; rfl
    · rw [h4, e1]
  · have hn : 0 ≤ n ∧ n < 8 := by omega
    cases h : ofP qs n with
    | some a =>
      have e1 : regE (absO qs) n len = 9 := by unfold regE; rw [if_neg hbad, ofP_absO, h]; rfl
      obtain ⟨_, hs2, _⟩ := hq.at_ h
      refine (frm0 hp0 (rreg20_twice root hrl ticks b (psO qs) hq.p8 n link idn sig b3 hs3 A len cap ks hl hlb hil hsl hbl a.p hn (by unfold psO; rw [List.getElem?_map, hs2]; rfl) (by omega) w (HP.atw hp0 List.mem_cons_self))).mono fun e w' ⟨h4, h5⟩ => ⟨qs, ⟨hq, ?_⟩, ?_, h5⟩
      · unfold regQ; rw [e1]; rfl
      · rw [h4, e1]
    | none =>
      have e1 : regE (absO qs) n len = 0 := by unfold regE; rw [if_neg hbad, ofP_absO, h]; rfl
      have hs2 := ofP_none_set hq.len hn h
      refine (frm hp0 (M0 := [(b, .cells (rlS root ticks (psO qs)) 130)]) (Lr := accs accR qs) (.refl _) fun hp => rreg20_calls root hrl ticks b (psO qs) hq.p8 n link idn sig b3 hs3 A len cap ks hl hlb hil hsl hbl hn (by unfold psO; rw [List.getElem?_map, hs2]; rfl) hlen hcap (by omega) hkl w hp (fun w1 M h1 => hs w1 _ (hp0.transP (M0 := [(b, .cells (rlS root ticks (psO qs)) 130)]) (Lr := accs accR qs) (.refl _) h1))).mono fun e w' ⟨a', ⟨h4, h6⟩, h7, h8⟩ => ⟨qs.set n.toNat (some a'), ⟨hq.set _ h4 (Int.le_refl _) (by rw [show a'.many = 0 from congrArg AAcc.many h6]; exact hk0), ?_⟩, ?_, ?_⟩
      · rw [absO_set]; unfold regQ; rw [e1]; show (absO qs).set _ (some a'.abs) = _; rw [h6]; rfl
      · rw [h7, e1]
      · rw [psO_set]
        refine h8.perm (List.Perm.cons _ ?_)
        have h9 := accs_split (f := accR) (qs := qs.set n.toNat (some a')) (k := n.toNat) (q := some a') (by rw [List.getElem?_set_self (by rw [hq.len]; omega)])
        rw [List.set_set] at h9
        obtain ⟨g1, g2⟩ := List.getElem?_eq_some_iff.1 hs2
        have h10 : qs.set n.toNat none = qs := by rw [← g2, List.set_getElem_self]
        rw [h10] at h9
        exact h9

end Go.Proofs.Ytmeckbjinmgbbaa