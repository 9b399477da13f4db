/- Boxes of mails: those that are kept. -/
import Derived.Test.YtmeckbjinmgbbaaBox
set_option linter.unusedVariables false
set_option linter.unusedSimpArgs false

namespace Go.Proofs.Ytmeckbjinmgbbaa
open Go.X
theorem take_snoc' {α : Type} {l : List α} {i : Nat} {a : α} (h : l[i]? = some a) : l.take (i + 1) = l.take i ++ [a] := by
  rw [List.take_add_one, h]; rfl
theorem MsOK.snoc {ms : List ML} {m : ML} (h : MsOK ms) (hm : MOK m) (h8 : ms.length < 8) : MsOK (ms ++ [m]) := ⟨fun x hx => by
  rcases List.mem_append.1 hx with hx | hx
  · exact h.1 x hx
  · rw [List.mem_singleton.1 hx]; exact hm, by rw [List.length_append, List.length_singleton]; omega⟩
section
variable {c : Cx} {Q : Post} {S : Slots} {L L' : List (Nat × Blk)} {ty T : TypeId} {x ix : Operand} {i : Nat} {v : Value} {w0 w : World} {O : List Nat}
theorem viGM {o : Gr} {b cc len cap : Nat} {rs : List Value} {k : IntKind} (s : Nat) (ho : o = some (b, cc, rs)) (hx : ev S x = some (.slice (gA o) len cap) := by exact rfl) (hi : ev S ix = some (.int k (i : Int)) := by exact rfl) (hj : i < len := by omega) (ht : slB c.P T s = true := by kernel_rfl) : Val c S L (.indexAddr T x ix) ty (.pointer (some ⟨b, 0 + i * s, none⟩)) := by
  subst ho; exact viO s hx hi hj ht
theorem mbS_mem {ms : List ML} {m : ML} (hm : m ∈ ms) : ∀ p ∈ mbL m, p ∈ ms.flatMap mbL := fun p hp => List.mem_flatMap.2 ⟨m, hm, hp⟩
/-- A mail's body. -/
theorem mbS {ms : List ML} {m : ML} (hp : HP w0 w O L) (hm : m ∈ ms) (hk : MOK m) (hd : DelL (ms.flatMap mbL) L L' := by exact dell) : SrW w 1 (gA m.2) m.1.l.length (iv .u8 m.1.l) := by
  have h2 := hp.perm hd.perm.symm
  obtain ⟨a, o⟩ := m
  cases o with
  | none =>
    have h0 : a.l.length = 0 := hk.2
    have h1 : a.l = [] := List.length_eq_zero_iff.1 h0
    dsimp only; rw [h1]; exact SrW.nil
  | some q =>
    have h3 := mbS_mem hm (q.1, .cells [(a.l.length, iv .u8 a.l), (q.2.1 - a.l.length, q.2.2)] 5) (by unfold mbL gL; exact List.mem_cons_self)
    exact HP.sown h2 (b := q.1) (List.mem_append_left _ h3) iv_one
theorem mlsS {o : Gr} {ms : List ML} {t : TypeId} (hp : HP w0 w O L) (ho : GrOK o ms.length) (hms : ∀ m ∈ ms, MOK m) (hd : DelL (gLM 138 o ms.length (ms.flatMap mlV) t) L L' := by exact dell) : SrW w 138 (gA o) ms.length (ms.flatMap mlV) :=
  HP.sgrM hp hd (mls_len hms) ho mlV_one
theorem vldML {o : Gr} {ms : List ML} {m : ML} {b cc q : Nat} {rs : List Value} {t : TypeId} {ds : List Seg} (j : Nat) (hgo : o = some (b, cc, rs)) (ho : GrOK o ms.length) (hms : ∀ m ∈ ms, MOK m) (hm : ms[j]? = some m) (hds : flat ds = mlV m := by rfl) (hd : DelL (gLM 138 o ms.length (ms.flatMap mlV) t) L L' := by exact dell)
    (ht : agB c.P T 138 = true := by kernel_rfl) (hx : ev S x = some (.pointer (some ⟨b, q, none⟩)) := by exact rfl) (hq : q = 0 + j * 138 := by omega) : Val c S L (.load T x) ty (AG ds) :=
  vldOAs' 138 j (fun m hm => mlV_len (hms m hm)) (fun w hp => by have := mlsS hp ho hms hd; rw [hgo] at this; exact this) hm hds ht hx hq
theorem vldMLf {o : Gr} {ms : List ML} {m : ML} {b cc q : Nat} {rs : List Value} {t : TypeId} (j k : Nat) (hgo : o = some (b, cc, rs)) (ho : GrOK o ms.length) (hms : ∀ m ∈ ms, MOK m) (hm : ms[j]? = some m) (hd : DelL (gLM 138 o ms.length (ms.flatMap mlV) t) L L' := by exact dell)
    (ht : scB c.P T = true := by kernel_rfl) (hx : ev S x = some (.pointer (some ⟨b, q, none⟩)) := by exact rfl) (hk : k < 138 := by omega) (hq : q = 0 + (j * 138 + k) := by omega) (hv : (mlV m)[k]? = some v := by rfl) : Val c S L (.load T x) ty v :=
  vldOs' 138 j k (fun m hm => mlV_len (hms m hm)) (fun w hp => by have := mlsS hp ho hms hd; rw [hgo] at this; exact this) hm ht hx hk hq hv
end

theorem list19_calls (b : Nat) (o : Gr) (ms : List ML) (many : Int) (ho : GrOK o ms.length) (hms : MsOK ms) (w : World) (hp0 : HP w w ((((b, .cells [(1, [.slice (gA o) ms.length (gC o)]), (1, [.int .i64 many])] 190) :: (gLM 138 o ms.length (ms.flatMap mlV) 68 ++ ms.flatMap mbL)) : List (Nat × Blk)).map (·.1)) (((b, .cells [(1, [.slice (gA o) ms.length (gC o)]), (1, [.int .i64 many])] 190) :: (gLM 138 o ms.length (ms.flatMap mlV) 68 ++ ms.flatMap mbL)) : List (Nat × Blk))) :
    Calls Try.prog 41 [.pointer (some ⟨b, 0, none⟩)].toArray w fun e' w' => ∃ r : Gr × List ML, (r.2.map (·.1) = ms.map (·.1) ∧ MsOK r.2 ∧ GrOK r.1 r.2.length) ∧ e' = .returned (.slice (gA r.1) r.2.length (gC r.1)) ∧ HP w w' ((((b, .cells [(1, [.slice (gA o) ms.length (gC o)]), (1, [.int .i64 many])] 190) :: (gLM 138 o ms.length (ms.flatMap mlV) 68 ++ ms.flatMap mbL)) : List (Nat × Blk)).map (·.1)) ((((b, .cells [(1, [.slice (gA o) ms.length (gC o)]), (1, [.int .i64 many])] 190) :: (gLM 138 o ms.length (ms.flatMap mlV) 68 ++ ms.flatMap mbL)) : List (Nat × Blk)) ++ (gLM 138 r.1 r.2.length (r.2.flatMap mlV) 68 ++ r.2.flatMap mbL)) := by
 have h138 := mls_len hms.1
 have hl8 := hms.2
 refine calls_of_W Try.func41 rfl Try.ntmps41 rfl rfl hp0 ?_
 refine sr ?_
 refine oas ?_
 refine nx ?_
 refine oas ?_
 refine nq ?_
 refine W.seq ?_
 refine sr ?_
 refine omv ?_
 refine ov vnil ?_
 refine ov (vfa0 0 1) ?_
 refine ov vld ?_
 refine ov vlenS ?_
 refine omv ?_
 refine nq ?_
 refine W.block ?_
 -- LOOP 0
 refine W.pick (S' := [(3, _), (11, _), (0, _), (2, _), (9, _), (10, _)]) [3, 11, 0, 2, 9, 10] rfl ?_
 refine W.loopG (σ := Nat × Gr × List ML) (fun ⟨i, co, cs⟩ => i ≤ ms.length ∧ cs.length = i ∧ cs.map (·.1) = (ms.take i).map (·.1) ∧ MsOK cs ∧ GrOK co i) (fun ⟨i, co, cs⟩ => [(3, .slice (gA co) i (gC co)), (11, .int .i64 (i : Nat))]) (fun ⟨i, co, cs⟩ => []) [(b, _)] (fun ⟨i, co, cs⟩ => (gLM 138 o ms.length (ms.flatMap mlV) 68 ++ ms.flatMap mbL) ++ (gLM 138 co i (cs.flatMap mlV) 68 ++ cs.flatMap mbL)) (fun ⟨i, co, cs⟩ => ms.length - i) (0, none, []) rfl cov ⟨Nat.zero_le _, rfl, rfl, ⟨fun m hm => (List.not_mem_nil hm).elim, Nat.zero_le _⟩, rfl⟩ ?_
 rintro ⟨i, co, cs⟩ ⟨hi, hci, hcm, hcs, hco⟩; dsimp only at hi hci hcm hcs hco ⊢
 refine sr ?_
 refine ov (v2 V_lss) ?_
 refine nq ?_
 refine W.seq ?_
 refine W.cond_dec rfl (fun g1 => ?_) (fun g1 => ?_)
 · refine W.skip ?_
   refine WQ.then ?_
   refine W.seq ?_
   refine W.block ?_
   refine W.seq ?_
   obtain ⟨gb, gc, grs, hgo, hgc⟩ := gr_open ho (by omega)
   obtain ⟨m, hm⟩ : ∃ m, ms[i]? = some m := ⟨_, List.getElem?_eq_getElem (by omega)⟩
   have hmm := List.mem_of_getElem? hm
   have hmk := hms.1 m hmm
   have hk1 := hmk.1
   have hc32 := hk1.c
   have hp32 := hk1.p
   have hs32 := hk1.sc
   have ht32 := hk1.st
   have hcb := hk1.cb
   have hpb := hk1.pb
   have hbg := hmk.big
   refine W.region ?_
   refine ov (viGM 138 hgo) ?_
   refine ov ((vldML (ds := [(1, [.int .i64 m.1.id]), (1, [.int .i64 m.1.e.fr]), (1, [.int .i64 m.1.e.to]), (32, iv .u8 m.1.e.commit), (32, iv .u8 m.1.e.pub), (1, [.int .i64 m.1.e.prev]), (1, [.int .i64 m.1.e.n]), (1, [.slice (gA m.2) m.1.l.length (gC m.2)]), (1, [.int .i64 m.1.s.epoch]), (1, [.int .i64 m.1.s.fr]), (1, [.int .i64 m.1.s.to]), (1, [.int .i64 m.1.s.time]), (32, iv .u8 m.1.s.commit), (32, iv .u8 m.1.s.tag)]) i hgo ho hms.1 hm)) ?_
   refine oal [(1, [.int .i64 0]), (1, [.int .i64 0]), (1, [.int .i64 0]), (32, List.replicate 32 (.int .u8 0)), (32, List.replicate 32 (.int .u8 0)), (1, [.int .i64 0]), (1, [.int .i64 0]), (1, [.slice none 0 0]), (1, [.int .i64 0]), (1, [.int .i64 0]), (1, [.int .i64 0]), (1, [.int .i64 0]), (32, List.replicate 32 (.int .u8 0)), (32, List.replicate 32 (.int .u8 0))] (fun b5 => ?_)
   refine osta 138 ?_
   refine nq ?_
   refine W.region ?_
   refine omv ?_
   refine ov (vlda 138) ?_
   refine cg rfl (fun w hp => own19_calls m.1.id (mlE m) (gA m.2) m.1.l.length (gC m.2) m.1.l hmk.en m.1.s hs32 ht32 (by omega) w (mbS hp hmm hmk)) (fun b17 h17 => ?_)
   refine obsM 68 224 (fun b18 => ?_) own_one (own_len hmk.en hs32 ht32)
   refine oapMG 68 224 (fun o19 h19 _ => ?_) (m := 1) (ys := flat (mlS m.1.id ((mlE m).at (some ⟨b17, 0, none⟩) m.1.l.length m.1.l.length) m.1.s)) (fun w hp => (HP.sown hp (b := b18) (by repeat (first | exact List.Mem.head _ | apply List.Mem.tail)) own_one).mul) (by rw [mls_len hcs.1, hci]) hco
   refine oas ?_
   refine WL.nil ?_
   refine WQ.block_normal ?_
   refine WQ.then ?_
   refine W.region ?_
   first | refine ov vaddN ?_ | refine ov vadd ?_
   refine omv ?_
   refine WL.nil ?_
   exact ag ((i + 1, o19, cs ++ [(m.1, some (b17, m.1.l.length, []))])) [3, 11, 0, 2, 9, 10] (by (try dsimp only); exact ⟨by omega, by simp; omega, by rw [List.map_append, hcm, take_snoc' hm, List.map_append]; rfl, MsOK.snoc hcs ⟨hmk.1, Nat.le_refl _⟩ (by omega), h19⟩) (by (try dsimp only); omega) rfl (by dsimp only; rw [List.flatMap_append, List.flatMap_append, List.flatMap_singleton, List.flatMap_singleton]; exact cov)
 · refine W.exit ?_
   refine WQ.then_exit ?_
   refine WQ.then_exit ?_
   refine WQ.block_hit ?_
   refine WQ.then ?_
   refine sr ?_
   refine omv ?_
   refine oas ?_
   refine nq ?_
   refine W.ret ?_
   refine WQ.ret1 Try.results41 (.tmp rfl) ?_
   intro w' hp; obtain rfl : i = ms.length := by omega
   rw [← hci] at hp ⊢; exact ⟨(co, cs), ⟨by rw [hcm, List.take_length], hcs, by rw [hci]; exact hco⟩, rfl, hp.cov cov⟩

end Go.Proofs.Ytmeckbjinmgbbaa