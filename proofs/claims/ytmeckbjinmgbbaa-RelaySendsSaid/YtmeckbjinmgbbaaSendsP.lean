/- RelaySends: what waits is what was sent. -/
import Derived.Test.YtmeckbjinmgbbaaOps
set_option linter.unusedVariables false
set_option linter.unusedSimpArgs false

namespace Go.Proofs.Ytmeckbjinmgbbaa
open Go.X
/-- The envelope of a step, from 1 to 2. -/
def wE (o : OpR) : EnvS := ⟨1, 2, o.e.commit, o.e.pub, o.e.prev, o.e.n, .slice o.A o.n o.cap⟩
theorem wE_ok {w : World} {o : OpR} (h : o.OK w) : EnOK (wE o) o.A o.n o.cap o.b := ⟨rfl, h.e.c, h.e.cb, h.e.p, h.e.pb, h.e.lb, h.e.nl, h.e.capn, h.e.big⟩
def wV (o : OpR) : List Value := flat (enV (wE o))
theorem wV_len {w : World} {o : OpR} (h : o.OK w) : (wV o).length = 69 := by
  simp [wV, wE, enV, flat, iv_len, h.e.c, h.e.p]
theorem wV_one {o : OpR} : ∀ v ∈ wV o, Go.X.one v = true := fun v he => by
  simp only [wV, wE, enV, flat, List.flatMap_cons, List.flatMap_nil, List.append_nil, List.mem_append, List.mem_cons, List.not_mem_nil, or_false] at he
  rcases he with rfl | rfl | he | he | rfl | rfl | rfl <;> first | rfl | exact iv_one _ he
theorem wVs_one {ws : List OpR} : ∀ v ∈ ws.flatMap wV, Go.X.one v = true := fun v hv => by
  obtain ⟨o, _, he⟩ := List.mem_flatMap.1 hv
  exact wV_one v he
def eSeg (o : OpR) : List Seg := [(1, [.int .i64 o.e.fr]), (1, [.int .i64 o.e.to]), (32, iv .u8 o.e.commit), (32, iv .u8 o.e.pub), (1, [.int .i64 o.e.prev]), (1, [.int .i64 o.e.n]), (1, [.slice o.A o.n o.cap])]
theorem OpR.OK.ePart {w : World} {o : OpR} (h : o.OK w) : flat (eSeg o) = (o.c.drop 4).take 69 := by
  have hl : (flat (eSeg o)).length = 69 := by simp [eSeg, flat, iv_len, h.e.c, h.e.p]
  have e : o.c = [.int .i64 o.do_, .int .i64 o.num, .int .i64 o.id, .int .i64 o.now] ++ (flat (eSeg o) ++ (iv .u8 o.tag ++ [.slice o.kA o.kn o.kc])) := by
    simp [OpR.c, OpR.segs, eSeg, enV, flat, h.e.body]
  rw [e, List.drop_append_of_le_length (by simp), List.drop_of_length_le (by simp), List.nil_append, List.take_append_of_le_length (by omega), List.take_of_length_le (by omega)]
section
variable {root : List Int} {ticks : Int} {a c : PAcc} {e : EnvS} {l tag : List Int} {now : Int} {r : SR}
theorem Snt.zero (h : Snt root ticks a c e l tag now r) (hk : r.k = 0) : tgL a.link e l = tag ∧ a.susp = false ∧ c.ms.length < 8 ∧ takeE 5 10 a.t a.n now = 0 := by
  have h1 := h.kk
  rw [hk] at h1
  unfold sndE at h1
  split at h1
  · rename_i h2
    obtain ⟨q1, q2, q3⟩ := rt0_of h2
    exact ⟨q1, q2, by rw [← absms]; exact q3, h1.symm⟩
  · rename_i h2; exact absurd h1.symm h2
theorem Snt.non (h : Snt root ticks a c e l tag now r) (hk : r.k ≠ 0) : r.c.abs = c.abs := by
  rw [h.xc]; unfold sndC; rw [if_neg (by rw [← h.kk]; exact hk)]
end
def abE (a : AM) : EnvS × List Int := (a.e, a.l)
def abO (o : OpR) : EnvS × List Int := ((wE o).at none 0 0, o.b)
structure S3 (p1 p2 : Nat) (root : List Int) (w0 : World) (i : Nat) (y z : PAcc) (m : List Ent) (ws : List OpR) : Prop where
  j : J2 p1 p2 root y z m
  ly : y.link = lnk 1
  mz : 0 ≤ z.many ∧ z.many ≤ i
  wm : z.abs.ms.map abE = ws.map abO
  wok : ∀ o ∈ ws, o.OK w0
section
variable {p1 p2 : Nat} {root : List Int} {w0 : World} {i : Nat} {y z y1 : PAcc} {m : List Ent} {ws : List OpR} {o : OpR} {u : Bool} {T : List Int} {now : Int} {r : SR}
theorem S3.sus (h : S3 p1 p2 root w0 i y z m ws) (hs : POK y1 ∧ y1.p = y.p ∧ y1.abs = susL y.abs u) : S3 p1 p2 root w0 i y1 z m ws ∧ y1.susp = u := by
  have f := PAcc.fld hs.2.2
  exact ⟨⟨⟨hs.1, h.j.okc, hs.2.1.trans h.j.pa, h.j.pc, h.j.g⟩, f.1.trans h.ly, h.mz, h.wm, h.wok⟩, f.2.1⟩
theorem S3.yes (h : S3 p1 p2 root w0 i y z m ws) (ho : o.OK w0) (hs : Snt root 5 y z (wE o) o.b T now r) (hk : r.k = 0) : S3 p1 p2 root w0 (i + 1) r.a r.c r.m (ws ++ [o]) ∧ tgL (lnk 1) (wE o) o.b = T ∧ y.susp = false ∧ r.s = stampF root 5 (wE o) now := by
  obtain ⟨q1, q2, q3, q4⟩ := hs.zero hk
  have w := hs.went q1 q2 q3 q4
  refine ⟨⟨h.j.snd hs, w.link.trans h.ly, ?_, ?_, fun x hx => ?_⟩, by rw [← h.ly]; exact q1, q2, w.s⟩
  · rw [w.many]; have := h.mz; omega
  · rw [w.ms, List.map_append, List.map_append, h.wm]; rfl
  · rcases List.mem_append.1 hx with hx | hx
    · exact h.wok x hx
    · rw [List.mem_singleton.1 hx]; exact ho
theorem S3.no (h : S3 p1 p2 root w0 i y z m ws) (hs : Snt root 5 y z (wE o) o.b T now r) (hk : r.k ≠ 0) : S3 p1 p2 root w0 (i + 1) r.a r.c r.m ws := by
  have e := hs.non hk
  have f := PAcc.fld e
  have m0 : r.c.many = z.many := f.2.2.2.2.2.1
  exact ⟨h.j.snd hs, (show r.a.link = y.link from hs.link).trans h.ly, by rw [m0]; have := h.mz; omega, by rw [e]; exact h.wm, h.wok⟩
theorem S3.len (h : S3 p1 p2 root w0 i y z m ws) : z.ms.length = ws.length ∧ ws.length ≤ 8 := by
  have h1 := congrArg List.length h.wm
  rw [List.length_map, List.length_map, absms] at h1
  exact ⟨h1, by rw [← h1]; exact h.j.okc.1.ms.2⟩
theorem S3.at_ (h : S3 p1 p2 root w0 i y z m ws) {ms : List ML} {mm : ML} {q : Nat} (hm : ms.map (·.1) = z.abs.ms) (hq : ms[q]? = some mm) (ho : ws[q]? = some o) : { mlE mm with body := .slice o.A mm.1.l.length o.cap } = wE o ∧ mm.1.l = o.b ∧ mm.1.l.length = o.n ∧ o.OK w0 := by
  have hok := h.wok o (List.mem_of_getElem? ho)
  have h1 : z.abs.ms[q]? = some mm.1 := by rw [← hm, List.getElem?_map, hq]; rfl
  have h2 := congrArg (fun x => x[q]?) h.wm
  simp only [List.getElem?_map, h1, ho, Option.map_some] at h2
  injection h2 with h2
  have e1 : mm.1.e = (wE o).at none 0 0 := congrArg Prod.fst h2
  have e2 : mm.1.l = o.b := congrArg Prod.snd h2
  have e3 : mm.1.l.length = o.n := by rw [e2]; exact hok.e.nl.symm
  refine ⟨?_, e2, e3, hok⟩
  rw [e3]; unfold mlE; rw [e1]; rfl
end
theorem S3.nil {p1 p2 : Nat} {root : List Int} {w0 : World} {y z : PAcc} (h2 : POK y ∧ y.abs = nwA 1) (h3 : POK z ∧ z.abs = nwA 2) (e2 : y.p = p1) (e3 : z.p = p2) : S3 p1 p2 root w0 0 y z [] [] := by
  have f2 := PAcc.fld h2.2
  have f3 := PAcc.fld h3.2
  have m3 : z.many = 0 := f3.2.2.2.2.2.1
  exact ⟨⟨h2.1, h3.1, e2, e3, Good.nil⟩, f2.1, by omega, by rw [h3.2]; rfl, fun o h => (List.not_mem_nil h).elim⟩
theorem xor1_ne {l : List Int} {q : Nat} (hl : l.length = 32) (hb : bytes l) (hq : q < 32) : l ≠ badF l q 1 := by
  have := badF_ne (k := 0) hb (show q < l.length by omega) (Int.le_refl _) (by decide)
  rwa [shl10] at this
theorem stamp_chk {root : List Int} {e : EnvS} {now : Int} (h : mayB e now = true) : checkF root 5 (stampF root 5 e now) now = 0 := by
  simp only [mayB, timeB, acB, Bool.and_eq_true, decide_eq_true_eq] at h
  have hd := div_bd (n := now) (t := 5) h.1.1 (by omega)
  rw [stampF_yes (by simp only [mayB, timeB, acB, Bool.and_eq_true, decide_eq_true_eq]; exact h)]
  refine chk0 ?_ ?_ rfl rfl ?_
  · simp only [rightB, timeB, acB, Bool.and_eq_true, decide_eq_true_eq]; exact ⟨⟨⟨hd, h.1.1⟩, h.1.2⟩, h.2⟩
  · simp only [timeB, Bool.and_eq_true, decide_eq_true_eq]; exact h.1.1
  · show ¬ (now < now ∨ now > now + 50); omega
section
variable {c : Cx} {S : Slots} {L L' : List (Nat × Blk)} {ty T : TypeId} {x : Operand}
theorem vldMLe {o : Gr} {ms : List ML} {m : ML} {b cc q : Nat} {rs : List Value} {t : TypeId} (j : Nat) (hgo : o = some (b, cc, rs)) (ho : GrOK o ms.length) (hms : ∀ m ∈ ms, MOK m) (hm : ms[j]? = some m) (hd : DelL (gLM 138 o ms.length (ms.flatMap mlV) t) L L' := by exact dell)
    (ht : agB c.P T 69 = true := by kernel_rfl) (hx : ev S x = some (.pointer (some ⟨b, q, none⟩)) := by exact rfl) (hq : q = 0 + (j * 138 + 1) := by omega) : Val c S L (.load T x) ty (AG (enV (mlE m))) :=
  vldOPs' 138 j 1 69 (fun m hm => mlV_len (hms m hm)) (fun w hp => by have := mlsS hp ho hms hd; rw [hgo] at this; exact this) hm (by
    have hk := hms m (List.mem_of_getElem? hm)
    have hl : (flat (enV (mlE m))).length = 69 := by simp [enV, flat, iv_len, mlE, EnvS.at, hk.1.c, hk.1.p]
    have e : mlV m = [.int .i64 m.1.id] ++ (flat (enV (mlE m)) ++ flat (stV m.1.s)) := by simp [mlV, mlS, flat]
    rw [e, List.drop_append_of_le_length (by simp), List.drop_of_length_le (by simp), List.nil_append, List.take_append_of_le_length (by omega), List.take_of_length_le (by omega)]) (by decide) ht hx hq
theorem vldWs {o : Gr} {ws : List OpR} {p : OpR} {b cc q : Nat} {rs : List Value} {t : TypeId} {ds : List Seg} (j : Nat) (hgo : o = some (b, cc, rs)) (ho : GrOK o ws.length) (hw : ∀ x ∈ ws, (wV x).length = 69) (hm : ws[j]? = some p) (hds : flat ds = wV p) (hd : DelL (gLM 69 o ws.length (ws.flatMap wV) t) L L' := by exact dell)
    (ht : agB c.P T 69 = true := by kernel_rfl) (hx : ev S x = some (.pointer (some ⟨b, q, none⟩)) := by exact rfl) (hq : q = 0 + j * 69 := by omega) : Val c S L (.load T x) ty (AG ds) :=
  vldOAs' 69 j hw (fun w hp => by have := HP.sgrM hp hd (flatMap_len' hw) ho wVs_one; rw [hgo] at this; exact this) hm hds ht hx hq
end
end Go.Proofs.Ytmeckbjinmgbbaa