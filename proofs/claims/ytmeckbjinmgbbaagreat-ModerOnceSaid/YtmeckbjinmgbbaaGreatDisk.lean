/- Disks: what they hold. -/
import Derived.Test.YtmeckbjinmgbbaaGreatJoin2
import Derived.Test.YtmeckbjinmgbbaaGreatXC
set_option linter.unusedVariables false
set_option linter.unusedSimpArgs false

namespace Go.Proofs.YtmeckbjinmgbbaaGreat
open Go.X
abbrev PEnt := Int × List Int × Nat
def sE (e : PEnt) : Ent := (e.1, AG [(64, iv .u8 e.2.1)], e.2.2)
def pget : List PEnt → Int → Option (List Int)
  | [], _ => none
  | e :: m, i => if e.1 = i then some e.2.1 else pget m i
def pput : List PEnt → Nat → Int → List Int → List PEnt
  | [], ck, i, s => [(i, s, ck)]
  | e :: m, ck, i, s => if e.1 = i then (e.1, s, e.2.2) :: m else e :: pput m ck i s
def pck (m : List PEnt) (ck : Nat) (i : Int) : Nat := if (pget m i).isSome then ck else ck + 1
theorem pget_cons {e : PEnt} {m : List PEnt} {i : Int} : pget (e :: m) i = if e.1 = i then some e.2.1 else pget m i := rfl
theorem pput_cons {e : PEnt} {m : List PEnt} {ck : Nat} {i : Int} {s : List Int} : pput (e :: m) ck i s = if e.1 = i then (e.1, s, e.2.2) :: m else e :: pput m ck i s := rfl
theorem mget_sE {i : Int} : ∀ {m : List PEnt}, mget (m.map sE) i = (pget m i).map fun s => AG [(64, iv .u8 s)]
  | [] => rfl
  | e :: m => by
    rw [List.map_cons, mget_cons, mget_sE, pget_cons]
    by_cases h : e.1 = i
    · rw [if_pos h, if_pos (show (sE e).1 = i from h)]; rfl
    · rw [if_neg h, if_neg (show ¬ (sE e).1 = i from h)]
theorem mput_sE {ck : Nat} {i : Int} {s : List Int} : ∀ {m : List PEnt}, mput (m.map sE) ck i (AG [(64, iv .u8 s)]) = (pput m ck i s).map sE
  | [] => rfl
  | e :: m => by
    rw [List.map_cons, mput_cons, mput_sE, pput_cons]
    by_cases h : e.1 = i
    · rw [if_pos h, if_pos (show (sE e).1 = i from h)]; rfl
    · rw [if_neg h, if_neg (show ¬ (sE e).1 = i from h)]; rfl
theorem mfind_get {x : Int} {m : List Ent} : (mfind m x 0).isSome = (mget m x).isSome := by
  unfold mget; cases mfind m x 0 <;> rfl
theorem mclk_sE {ck : Nat} {i : Int} {m : List PEnt} : mclk (m.map sE) ck i = pck m ck i := by
  have h : (mfind (m.map sE) i 0).isSome = (pget m i).isSome := by rw [mfind_get, mget_sE]; cases pget m i <;> rfl
  unfold mclk pck
  cases hq : mfind (m.map sE) i 0 <;> rw [hq] at h <;> rw [← h] <;> rfl
theorem pget_put {i j : Int} {s : List Int} {ck : Nat} : ∀ {m : List PEnt}, pget (pput m ck i s) j = if i = j then some s else pget m j
  | [] => by simp [pput, pget]
  | e :: m => by
    unfold pput
    by_cases h : e.1 = i
    · rw [if_pos h]; unfold pget
      by_cases h2 : e.1 = j
      · rw [if_pos h2, if_pos (by omega)]
      · rw [if_neg h2, if_neg h2, if_neg (by omega)]
    · rw [if_neg h]; unfold pget
      rw [pget_put]
      by_cases h2 : e.1 = j
      · rw [if_pos h2, if_pos h2, if_neg (by omega)]
      · rw [if_neg h2, if_neg h2]
theorem pget_mem {i : Int} {s : List Int} : ∀ {m : List PEnt}, pget m i = some s → ∃ n, (i, s, n) ∈ m
  | [], h => by cases h
  | e :: m, h => by
    unfold pget at h
    split at h
    · rename_i he; cases h; exact ⟨e.2.2, by rw [← he]; exact List.mem_cons_self⟩
    · obtain ⟨n, hn⟩ := pget_mem h; exact ⟨n, List.mem_cons_of_mem _ hn⟩
theorem pget_none {i : Int} : ∀ {m : List PEnt}, pget m i = none → ∀ e ∈ m, e.1 ≠ i
  | [], _, e, he => by cases he
  | a :: m, h, e, he => by
    unfold pget at h
    split at h
    · cases h
    · rename_i hn
      rcases List.mem_cons.1 he with rfl | he
      · exact hn
      · exact pget_none h e he
theorem pget_in {m : List PEnt} (hk : (m.map (·.1)).Nodup) {e : PEnt} (he : e ∈ m) : pget m e.1 = some e.2.1 := by
  induction m with
  | nil => cases he
  | cons a m ih =>
    simp only [List.map_cons, List.nodup_cons] at hk
    unfold pget
    rcases List.mem_cons.1 he with rfl | he
    · rw [if_pos rfl]
    · rw [if_neg (fun h => hk.1 (by rw [h]; exact List.mem_map.2 ⟨e, he, rfl⟩))]
      exact ih hk.2 he
theorem pput_mem {i : Int} {s : List Int} {ck : Nat} : ∀ {m : List PEnt} {e : PEnt}, e ∈ pput m ck i s → e ∈ m ∨ (e.1 = i ∧ e.2.1 = s ∧ (e.2.2 = ck ∨ ∃ e' ∈ m, e'.2.2 = e.2.2))
  | [], e, h => by
    rw [List.mem_singleton.1 h]; exact .inr ⟨rfl, rfl, .inl rfl⟩
  | a :: m, e, h => by
    unfold pput at h
    split at h
    · rename_i ha
      rcases List.mem_cons.1 h with rfl | h
      · exact .inr ⟨ha, rfl, .inr ⟨a, List.mem_cons_self, rfl⟩⟩
      · exact .inl (List.mem_cons_of_mem _ h)
    · rcases List.mem_cons.1 h with rfl | h
      · exact .inl List.mem_cons_self
      · rcases pput_mem h with h | ⟨h1, h2, h3⟩
        · exact .inl (List.mem_cons_of_mem _ h)
        · refine .inr ⟨h1, h2, h3.imp id ?_⟩
          rintro ⟨e', he', h4⟩; exact ⟨e', List.mem_cons_of_mem _ he', h4⟩
theorem pput_keys {i : Int} {s : List Int} {ck : Nat} : ∀ {m : List PEnt}, (pput m ck i s).map (·.1) = if (pget m i).isSome then m.map (·.1) else m.map (·.1) ++ [i]
  | [] => rfl
  | a :: m => by
    unfold pput pget
    by_cases h : a.1 = i
    · simp [h]
    · rw [if_neg h, if_neg h, List.map_cons, pput_keys]
      split <;> simp
theorem pput_born {i : Int} {s : List Int} {ck : Nat} : ∀ {m : List PEnt}, (pput m ck i s).map (·.2.2) = if (pget m i).isSome then m.map (·.2.2) else m.map (·.2.2) ++ [ck]
  | [] => rfl
  | a :: m => by
    unfold pput pget
    by_cases h : a.1 = i
    · simp [h]
    · rw [if_neg h, if_neg h, List.map_cons, pput_born]
      split <;> simp
structure DS where
  n : Nat
  sure : List (List Int)
  m : List PEnt
  ck : Nat
  fuse : Int
  dead : Bool
structure DK where
  d : Nat
  s : Nat
  m : Nat
def Sec (s : List Int) : Prop := s.length = 64 ∧ bytes s
structure DOK (D : DS) : Prop where
  n1 : 1 ≤ D.n
  n64 : D.n ≤ 64
  len : D.sure.length = D.n
  secs : ∀ s ∈ D.sure, Sec s
  ents : ∀ e ∈ D.m, (0 ≤ e.1 ∧ e.1 < D.n) ∧ Sec e.2.1 ∧ e.2.2 < D.ck
  keys : (D.m.map (·.1)).Nodup
  borns : (D.m.map (·.2.2)).Nodup
  fuse : -1 ≤ D.fuse ∧ D.fuse ≤ 9223372036854775807
theorem DOK.l64 {D : DS} (h : DOK D) : ∀ s ∈ D.sure, s.length = 64 := fun s hs => (h.secs s hs).1
theorem DOK.get {D : DS} (h : DOK D) {i : Nat} (hi : i < D.n) : Sec (D.sure.getD i []) := by
  have hl := h.len
  have hi2 : i < D.sure.length := by omega
  rw [List.getD_eq_getElem?_getD, List.getElem?_eq_getElem hi2]
  exact h.secs _ (List.getElem_mem hi2)
/-- A sector, as it was written last. -/
def cur (D : DS) (i : Nat) : List Int := (pget D.m i).getD (D.sure.getD i [])
theorem DOK.cur {D : DS} (h : DOK D) {i : Nat} (hi : i < D.n) : Sec (cur D i) := by
  unfold Go.Proofs.YtmeckbjinmgbbaaGreat.cur
  cases hq : pget D.m i with
  | none => exact h.get hi
  | some s =>
    obtain ⟨n, hn⟩ := pget_mem hq
    exact (h.ents _ hn).2.1
def burnE (D : DS) : Int := if D.dead = true ∨ D.fuse = 0 then 13 else 0
def burnD (D : DS) : DS := if D.dead = true ∨ D.fuse = 0 then { D with dead := true } else { D with fuse := max (D.fuse - 1) (-1) }
def inR (D : DS) (i : Int) : Bool := decide (0 ≤ i) && decide (i < D.n)
def putD (D : DS) (i : Int) (s : List Int) : DS := { D with m := pput D.m D.ck i s, ck := pck D.m D.ck i }
def wrE (D : DS) (i : Int) : Int := if inR D i then burnE D else 1
def wrD (D : DS) (i : Int) (s : List Int) : DS := if inR D i then (if burnE D = 0 then putD (burnD D) i s else burnD D) else D
def rdE (D : DS) (i : Int) : Int := if inR D i then 0 else 1
def rdS (D : DS) (i : Int) : List Int := if inR D i then cur D i.toNat else List.replicate 64 0
def merged (D : DS) : List (List Int) := (List.range D.n).map (cur D)
def flush (D : DS) : DS := { D with sure := merged D, m := [] }
def syD (D : DS) : DS := if burnE D = 0 then flush (burnD D) else burnD D
def fuD (D : DS) (k : Int) : DS := { D with fuse := max k (-1) }
def newD (n : Nat) : DS := ⟨n, List.replicate n (List.replicate 64 0), [], 0, -1, false⟩
theorem bytes_rep {n : Nat} : bytes (List.replicate n 0) := fun c hc => by rw [List.eq_of_mem_replicate hc]; omega
theorem sec0 : Sec (List.replicate 64 0) := ⟨by simp, bytes_rep⟩
theorem newD_ok {n : Nat} (h : 1 ≤ n) (h2 : n ≤ 64) : DOK (newD n) :=
  ⟨h, h2, by simp [newD], fun s hs => by rw [List.eq_of_mem_replicate hs]; exact sec0, (fun e he => by cases he), List.nodup_nil, List.nodup_nil, by simp [newD]⟩
theorem burnD_n {D : DS} : (burnD D).n = D.n := by unfold burnD; split <;> rfl
theorem burnD_m {D : DS} : (burnD D).m = D.m := by unfold burnD; split <;> rfl
theorem burnD_sure {D : DS} : (burnD D).sure = D.sure := by unfold burnD; split <;> rfl
theorem burnD_cur {D : DS} {i : Nat} : cur (burnD D) i = cur D i := by unfold cur; rw [burnD_m, burnD_sure]
theorem burnD_ok {D : DS} (h : DOK D) : DOK (burnD D) := by
  obtain ⟨h1, h2, h3, h4, h5, h6, h7, h8⟩ := h
  unfold burnD; split
  · exact ⟨h1, h2, h3, h4, h5, h6, h7, h8⟩
  · exact ⟨h1, h2, h3, h4, h5, h6, h7, by show -1 ≤ max (D.fuse - 1) (-1) ∧ max (D.fuse - 1) (-1) ≤ _; omega⟩
theorem putD_ok {D : DS} (h : DOK D) {i : Int} {s : List Int} (hi : 0 ≤ i ∧ i < D.n) (hs : Sec s) : DOK (putD D i s) := by
  obtain ⟨h1, h2, h3, h4, h5, h6, h7, h8⟩ := h
  have hck : D.ck ≤ pck D.m D.ck i := by unfold pck; split <;> omega
  refine ⟨h1, h2, h3, h4, fun e he => ?_, ?_, ?_, h8⟩
  · rcases pput_mem he with he | ⟨e1, e2, e3⟩
    · have := h5 e he; exact ⟨this.1, this.2.1, Nat.lt_of_lt_of_le this.2.2 hck⟩
    · refine ⟨by rw [e1]; exact hi, by rw [e2]; exact hs, ?_⟩
      rcases e3 with e3 | ⟨e', he', e3⟩
      · show e.2.2 < pck D.m D.ck i
        unfold pck
        split
        · rename_i hsome
          -- the key was there: the entry's number is an elder one's
          have hb : e.2.2 ∈ (pput D.m D.ck i s).map (·.2.2) := List.mem_map.2 ⟨e, he, rfl⟩
          rw [pput_born, if_pos hsome] at hb
          obtain ⟨e', he', h⟩ := List.mem_map.1 hb
          rw [← h]; exact (h5 e' he').2.2
        · omega
      · rw [← e3]; exact Nat.lt_of_lt_of_le (h5 e' he').2.2 hck
  · show ((pput D.m D.ck i s).map (·.1)).Nodup
    rw [pput_keys]
    split
    · exact h6
    · rename_i hn
      rw [List.nodup_append]
      refine ⟨h6, by simp, fun a ha b hb => ?_⟩
      rw [List.mem_singleton.1 hb]
      obtain ⟨e, he, rfl⟩ := List.mem_map.1 ha
      exact pget_none (by simpa using hn) e he
  · show ((pput D.m D.ck i s).map (·.2.2)).Nodup
    rw [pput_born]
    split
    · exact h7
    · rw [List.nodup_append]
      refine ⟨h7, by simp, fun a ha b hb => ?_⟩
      rw [List.mem_singleton.1 hb]
      obtain ⟨e, he, rfl⟩ := List.mem_map.1 ha
      have := (h5 e he).2.2
      omega
theorem wrD_ok {D : DS} (h : DOK D) {i : Int} {s : List Int} (hs : Sec s) : DOK (wrD D i s) := by
  unfold wrD; split
  · rename_i hi
    simp only [inR, Bool.and_eq_true, decide_eq_true_eq] at hi
    split
    · exact putD_ok (burnD_ok h) (by rw [burnD_n]; exact hi) hs
    · exact burnD_ok h
  · exact h
theorem merged_get {D : DS} {i : Nat} (hi : i < D.n) : (merged D).getD i [] = cur D i := by
  unfold merged
  simp [List.getD_eq_getElem?_getD, hi]
theorem flush_ok {D : DS} (h : DOK D) : DOK (flush D) := by
  refine ⟨h.n1, h.n64, by simp [flush, merged], fun s hs => ?_, (fun e he => by cases he), List.nodup_nil, List.nodup_nil, h.fuse⟩
  obtain ⟨i, hi, rfl⟩ := List.mem_map.1 hs
  exact h.cur (List.mem_range.1 hi)
theorem syD_ok {D : DS} (h : DOK D) : DOK (syD D) := by
  unfold syD; split
  · exact flush_ok (burnD_ok h)
  · exact burnD_ok h
theorem fuD_ok {D : DS} (h : DOK D) {k : Int} (hk : k ≤ 9223372036854775807) : DOK (fuD D k) := by
  obtain ⟨h1, h2, h3, h4, h5, h6, h7, h8⟩ := h
  exact ⟨h1, h2, h3, h4, h5, h6, h7, by show -1 ≤ max k (-1) ∧ max k (-1) ≤ _; omega⟩
theorem HP.here {w0 w : World} {O O' : List Nat} {L M : List (Nat × Blk)} (hp : HP w0 w O L) (hc : Cov M L) (hO : M.map (·.1) = O' := by rfl) : HP w w O' M := by
  subst hO
  have h := hp.cov hc
  exact ⟨rfl, rfl, rfl, Nat.le_refl _, fun _ _ _ => rfl, h.held, fun p hp => .inl (List.mem_map.2 ⟨p, hp, rfl⟩), h.nodup⟩
section
variable {c : Cx} {Q : Post} {S : Slots} {L Lr Lx : List (Nat × Blk)} {ops : Array Oper} {d : Option Tmp} {ty : TypeId} {pos : String} {af : Array Edge} {rest : List Oper} {v : Value} {g : Option (Nat × Bool)} {i : Nat} {p : Plan}
/-- A call that changes some tracked blocks. -/
theorem cms {f : FuncId} {xs : Array Operand} {ats : Array TypeId} {vs : List Value} {bs : List Nat} {M : List (Nat × Blk)} (ha : evs S xs.toList = some vs)
    (hc : ∀ w, HP c.w0 w c.O L → Calls c.P f vs.toArray w fun e w' => e = .returned v ∧ HP w w' bs M) (k : WL c ops Q rest (putS d v S) (M ++ Lr))
    (hdel : Dels bs L Lr := by exact dels) (hf : fnB c.P f = true := by kernel_rfl) (hd : inB c.n d = true := by exact rfl) : WL c ops Q (⟨d, .call ⟨.value (.func f), xs, ats⟩, ty, pos, af, none⟩ :: rest) S L :=
  WL.call bs (fun _ : Unit => v) (fun _ => M) (fun _ => True) hd hf ha hdel (fun w hp => (hc w hp).mono fun _ _ ⟨h1, h2⟩ => ⟨(), trivial, h1, h2⟩) fun _ _ => k
theorem dcms {f : FuncId} {xs : Array Operand} {ats : Array TypeId} {vs : List Value} {bs : List Nat} {M : List (Nat × Blk)} (ho : ops[i]? = some ⟨d, .call ⟨.value (.func f), xs, ats⟩, ty, pos, af, g⟩) (ha : evs S xs.toList = some vs)
    (hc : ∀ w, HP c.w0 w c.O L → Calls c.P f vs.toArray w fun e w' => e = .returned v ∧ HP w w' bs M) (k : WD c ops Q Lr p (putS d v S) (M ++ Lx))
    (hg : Gd ops S g := by exact trivial) (hdel : Dels bs L Lx := by exact dels) (hf : fnB c.P f = true := by kernel_rfl) (hd : inB c.n d = true := by exact rfl) (hs : Lr.Sublist L := by exact subl) (hm : ∀ p ∈ Lr, p ∈ Lx := by simp) : WO c ops Q Lr i p S L :=
  dcg (ι := Unit) (V := fun _ => v) (M := fun _ => M) (A := fun _ => True) ho ha (fun w hp => (hc w hp).mono fun _ _ ⟨h1, h2⟩ => ⟨(), trivial, h1, h2⟩) (fun _ _ => k) hg hdel hf hd hs hm
end

end Go.Proofs.YtmeckbjinmgbbaaGreat