/- Boxes of mails: one let go. -/
import Derived.Test.YtmeckbjinmgbbaaList
import Derived.Test.YtmeckbjinmgbbaaXC
set_option linter.unusedVariables false
set_option linter.unusedSimpArgs false

namespace Go.Proofs.Ytmeckbjinmgbbaa
open Go.X

theorem del19_calls (b n cap i : Nat) (xs rs : List Value) (hi : i < n) (hn : n ≤ cap) (hb : n ≤ 1000000) (hxl : xs.length = n * 138) (hx1 : ∀ v ∈ xs, Go.X.one v = true) (w : World) (hp0 : HP w w [b] [(b, .cells [(n * 138, xs), ((cap - n) * 138, rs)] 68)]) :
    Calls Try.prog 88 [.slice (some ⟨b, 0, none⟩) n cap, .int .i64 (i : Int), .int .i64 ((i : Int) + 1)].toArray w fun e w' => ∃ rs' : List Value, True ∧ e = .returned (.slice (some ⟨b, 0, none⟩) (n - 1) cap) ∧ HP w w' [b] [(b, .cells [((n - 1) * 138, xs.take (i * 138) ++ xs.drop ((i + 1) * 138)), ((cap - (n - 1)) * 138, rs')] 68)] := by
 have hrl : rs.length = (cap - n) * 138 := by
   obtain ⟨hf, _⟩ := hp0.held _ List.mem_cons_self
   exact hf.cons.2.cons.1
 refine calls_of_W Try.func88 rfl Try.ntmps88 rfl rfl hp0 ?_
 refine sr ?_
 refine oas ?_
 refine nx ?_
 refine omv ?_
 refine omv ?_
 refine omv ?_
 refine omv ?_
 refine ov vlenS ?_
 refine ov ((V_slice3 (l := i) (h := i + 1) (m := n) rfl rfl rfl rfl rfl (by omega) rfl (by omega) (by omega) (by omega) (s := 138))) ?_
 refine nq ?_
 refine W.seq ?_
 refine sr ?_
 refine omv ?_
 refine omv ?_
 refine ov (v2 V_eql) ?_
 refine nq ?_
 refine W.cond_false rfl (decide_eq_false (by omega)) ?_
 refine W.skip ?_
 refine WQ.then ?_
 refine sr ?_
 refine omv ?_
 refine ov vlenS ?_
 refine oas ?_
 refine nq ?_
 refine W.seq ?_
 refine W.reseg [(i * 138, xs.take (i * 138)), ((cap - i) * 138, xs.drop (i * 138) ++ rs)] ?_ (take_take_drop hi hn hxl) (fit_cut hi hn hxl hrl)
 refine dr (.q 0 (.q 1 (.q 2 (.q 3 (.q 4 (.q 5 (.l 6 (.q 7 (.done))))))))) [] ?_
 refine dq rfl (V_move rfl) ?_
 refine dq rfl (V_move rfl) ?_
 refine dq rfl (vslT 138 (s := 138) (h := i)) ?_
 refine dq rfl (V_move rfl) ?_
 refine dq rfl (V_move rfl) ?_
 refine dq rfl (vslFr 138 (l := i + 1)) ?_
 refine WD.l ?_
 refine dapIn rfl 68 224 (n := i) (m := n - (i + 1)) (N := n - 1) (xs := xs.take (i * 138)) (s := 138) (rest := xs.drop (i * 138) ++ rs) (ys := xs.drop ((i + 1) * 138)) (fun w hp => cut_sr hp (.here _) hi hn hxl hrl hx1) (by omega) (by repeat (first | exact Upd.here _ _ | apply Upd.there)) ?_
 refine dq rfl (V_assign rfl) ?_
 refine WD.done ?_
 refine WQ.then ?_
 refine sr ?_
 refine omv ?_
 refine omv ?_
 refine ov vlenS ?_
 refine omv ?_
 refine ov (vslM 138 (l := n - 1) (h := n)) ?_
 refine oclrM (k := n - 1) (m := n - (n - 1)) (s := 138) (R := (cap - (n - 1)) * 138) 68 68 224 (fun rs2 => ?_)
 refine nx ?_
 refine omv ?_
 refine oas ?_
 refine nq ?_
 refine W.ret ?_
 refine WQ.ret1 Try.results88 (.tmp rfl) ?_
 intro w' hp; exact ⟨_, trivial, rfl, hp.cov cov⟩

def aidx : List AM → Int → Option Nat
  | [], _ => none
  | a :: l, i => if a.id = i then some 0 else (aidx l i).map (· + 1)
theorem aidx_at {i : Int} : ∀ {l : List AM} {n : Nat} {a : AM}, (∀ k a', k < n → l[k]? = some a' → a'.id ≠ i) → l[n]? = some a → a.id = i → aidx l i = some n
  | [], n, a, _, h, _ => by simp at h
  | x :: l, 0, a, _, h, he => by
    simp at h; subst h
    unfold aidx; rw [if_pos he]
  | x :: l, n + 1, a, hn, h, he => by
    have h0 := hn 0 x (by omega) rfl
    unfold aidx
    rw [if_neg h0, aidx_at (l := l) (n := n) (fun k a' hk h' => hn (k + 1) a' (by omega) h') (by simpa using h) he]; rfl
theorem aidx_end {i : Int} : ∀ {l : List AM}, (∀ k a', k < l.length → l[k]? = some a' → a'.id ≠ i) → aidx l i = none
  | [], _ => rfl
  | x :: l, hn => by
    have h0 := hn 0 x (by simp) rfl
    unfold aidx
    rw [if_neg h0, aidx_end (l := l) fun k a' hk h' => hn (k + 1) a' (by simp; omega) h']; rfl
/-- One let go: the answer, and what is kept. -/
def ackE (l : List AM) (many id : Int) : Int := if id < 1 ∨ many < id then 7 else match aidx l id with
  | none => 5
  | some _ => 0
def ackL (l : List AM) (many id : Int) : List AM := if id < 1 ∨ many < id then l else match aidx l id with
  | none => l
  | some i => l.take i ++ l.drop (i + 1)
theorem ack_no {l : List AM} {many id : Int} (h : id < 1 ∨ many < id) : ackE l many id = 7 ∧ ackL l many id = l := ⟨if_pos h, if_pos h⟩
theorem ack_old {l : List AM} {many id : Int} (h : ¬ (id < 1 ∨ many < id)) (h2 : aidx l id = none) : ackE l many id = 5 ∧ ackL l many id = l := by
  unfold ackE ackL; rw [if_neg h, if_neg h, h2]; exact ⟨rfl, rfl⟩
theorem ack_yes {l : List AM} {many id : Int} {i : Nat} (h : ¬ (id < 1 ∨ many < id)) (h2 : aidx l id = some i) : ackE l many id = 0 ∧ ackL l many id = l.take i ++ l.drop (i + 1) := by
  unfold ackE ackL; rw [if_neg h, if_neg h, h2]; exact ⟨rfl, rfl⟩
theorem mids {ms : List ML} {n : Nat} {id : Int} (h : ∀ k m, k < n → ms[k]? = some m → m.1.id ≠ id) : ∀ k a, k < n → (ms.map (·.1))[k]? = some a → a.id ≠ id := fun k a hk ha => by
  rw [List.getElem?_map, Option.map_eq_some_iff] at ha
  obtain ⟨m, hm, rfl⟩ := ha
  exact h k m hk hm
theorem ml_split {α : Type} {ms : List α} {i : Nat} {m : α} (h : ms[i]? = some m) : ms = ms.take i ++ m :: ms.drop (i + 1) := by
  obtain ⟨h1, h2⟩ := List.getElem?_eq_some_iff.1 h
  subst h2
  rw [← List.drop_eq_getElem_cons h1, List.take_append_drop]
theorem MsOK.cut {ms : List ML} {i : Nat} (h : MsOK ms) : MsOK (ms.take i ++ ms.drop (i + 1)) := ⟨fun m hm => by
  rcases List.mem_append.1 hm with hm | hm
  · exact h.1 m (List.mem_of_mem_take hm)
  · exact h.1 m (List.mem_of_mem_drop hm), by have := h.2; simp; omega⟩

theorem ack19_calls (b : Nat) (o : Gr) (ms : List ML) (many : Int) (ho : GrOK o ms.length) (hms : MsOK ms) (id : Int) (w : World) (hp0 : HP w w ((((b, .cells [(1, [.slice (gA o) ms.length (gC o)]), (1, [.int .i64 many])] 190) :: (gLM 138 o ms.length (ms.flatMap mlV) 68 ++ ms.flatMap mbL)) : List (Nat × Blk)).map (·.1)) (((b, .cells [(1, [.slice (gA o) ms.length (gC o)]), (1, [.int .i64 many])] 190) :: (gLM 138 o ms.length (ms.flatMap mlV) 68 ++ ms.flatMap mbL)) : List (Nat × Blk))) :
    Calls Try.prog 56 [.pointer (some ⟨b, 0, none⟩), .int .i64 id].toArray w fun e' w' => ∃ r : Gr × List ML, (r.2.map (·.1) = ackL (ms.map (·.1)) many id ∧ MsOK r.2 ∧ GrOK r.1 r.2.length) ∧ e' = .returned (.int .i64 (ackE (ms.map (·.1)) many id)) ∧ HP w w' ((((b, .cells [(1, [.slice (gA o) ms.length (gC o)]), (1, [.int .i64 many])] 190) :: (gLM 138 o ms.length (ms.flatMap mlV) 68 ++ ms.flatMap mbL)) : List (Nat × Blk)).map (·.1)) (((b, .cells [(1, [.slice (gA r.1) r.2.length (gC r.1)]), (1, [.int .i64 many])] 190) :: (gLM 138 r.1 r.2.length (r.2.flatMap mlV) 68 ++ r.2.flatMap mbL)) : List (Nat × Blk)) := by
 have h138 := mls_len hms.1
 have hl8 := hms.2
 refine calls_of_W Try.func56 rfl Try.ntmps56 rfl rfl hp0 ?_
 refine sr ?_
 refine oas ?_
 refine nq ?_
 refine W.scope ?_
 refine W.seq ?_
 refine sr ?_
 refine omv ?_
 refine ov (v2 V_lss) ?_
 refine omv ?_
 refine WL.splitD rfl (fun g1 => ?_) (fun g1 => ?_)
 · refine on rfl (decide_eq_true g1) ?_
   refine on rfl (decide_eq_true g1) ?_
   refine on rfl (decide_eq_true g1) ?_
   refine on rfl (decide_eq_true g1) ?_
   refine on rfl (decide_eq_true g1) ?_
   refine on rfl (decide_eq_true g1) ?_
   refine ov (V_pick_td rfl g1 rfl) ?_
   refine nq ?_
   refine W.cond_true rfl rfl ?_
   refine sr ?_
   refine oas ?_
   refine nq ?_
   refine W.ret ?_
   refine WQ.then_ret ?_
   refine WQ.scope_ret ?_
   refine WQ.ret1 Try.results56 (.tmp rfl) ?_
   intro w' hp; obtain ⟨e1, e2⟩ := ack_no (l := ms.map (·.1)) (many := many) (id := id) (by omega); rw [e1, e2]; exact ⟨(o, ms), ⟨rfl, hms, ho⟩, rfl, hp.cov cov⟩
 · refine oy rfl (decide_eq_false g1) ?_
   refine omv ?_
   refine oy rfl (decide_eq_false g1) ?_
   refine omv ?_
   refine oy rfl (decide_eq_false g1) ?_
   refine ov vnil ?_
   refine oy rfl (decide_eq_false g1) ?_
   refine ov (vfa0 1 1) ?_
   refine oy rfl (decide_eq_false g1) ?_
   refine ov vld ?_
   refine oy rfl (decide_eq_false g1) ?_
   refine ov (v2 V_gtr) ?_
   refine ov (V_pick_fd rfl g1 rfl) ?_
   refine nq ?_
   refine W.cond_dec rfl (fun g2 => ?_) (fun g2 => ?_)
   · refine W.seq ?_
     refine W.region ?_
     refine oas ?_
     refine nq ?_
     refine W.ret ?_
     refine WQ.then_ret ?_
     refine WQ.scope_ret ?_
     refine WQ.ret1 Try.results56 (.tmp rfl) ?_
     intro w' hp; obtain ⟨e1, e2⟩ := ack_no (l := ms.map (·.1)) (many := many) (id := id) (by omega); rw [e1, e2]; exact ⟨(o, ms), ⟨rfl, hms, ho⟩, rfl, hp.cov cov⟩
   · refine W.skip ?_
     refine WQ.then ?_
     refine sr ?_
     refine oas ?_
     refine nq ?_
     refine W.seq ?_
     refine W.label ?_
     refine WQ.then ?_
     refine W.seq ?_
     refine sr ?_
     refine omv ?_
     refine ov vnil ?_
     refine ov (vfa0 0 1) ?_
     refine ov vld ?_
     refine ov vlenS ?_
     refine omv ?_
     refine nq ?_
     refine W.block ?_
     -- LOOP 0
     refine W.pick (S' := [(23, _), (0, _), (1, _), (4, _), (5, _), (17, _), (21, _), (22, _)]) [23, 0, 1, 4, 5, 17, 21, 22] rfl ?_
     refine W.loopG (σ := Nat) (fun i => i ≤ ms.length ∧ ∀ k m, k < i → ms[k]? = some m → m.1.id ≠ id) (fun i => [(23, .int .i64 (i : Nat))]) (fun i => []) [(b, _)] (fun i => (gLM 138 o ms.length (ms.flatMap mlV) 68 ++ ms.flatMap mbL)) (fun i => ms.length - i) 0 rfl cov ⟨Nat.zero_le _, fun k m hk => by omega⟩ ?_
     rintro i ⟨hi, hne⟩; dsimp only at hi hne ⊢
     refine sr ?_
     refine ov (v2 V_lss) ?_
     refine nq ?_
     refine W.seq ?_
     refine W.cond_dec rfl (fun g3 => ?_) (fun g3 => ?_)
     · refine W.skip ?_
       refine WQ.then ?_
       refine W.seq ?_
       refine W.block ?_
       refine W.seq ?_
       obtain ⟨gb, gc, grs, hgo, hgc⟩ := gr_open ho (by omega)
       obtain ⟨m, hm⟩ : ∃ m, ms[i]? = some m := ⟨_, List.getElem?_eq_getElem (by omega)⟩
       have hmk := hms.1 m (List.mem_of_getElem? hm)
       have hk1 := hmk.1
       have hc32 := hk1.c
       have hp32 := hk1.p
       have hs32 := hk1.sc
       have ht32 := hk1.st
       refine W.region ?_
       refine omv ?_
       refine ov (viGM 138 hgo) ?_
       refine ov ((vldML (ds := [(1, [.int .i64 m.1.id]), (1, [.int .i64 m.1.e.fr]), (1, [.int .i64 m.1.e.to]), (32, iv .u8 m.1.e.commit), (32, iv .u8 m.1.e.pub), (1, [.int .i64 m.1.e.prev]), (1, [.int .i64 m.1.e.n]), (1, [.slice (gA m.2) m.1.l.length (gC m.2)]), (1, [.int .i64 m.1.s.epoch]), (1, [.int .i64 m.1.s.fr]), (1, [.int .i64 m.1.s.to]), (1, [.int .i64 m.1.s.time]), (32, iv .u8 m.1.s.commit), (32, iv .u8 m.1.s.tag)]) i hgo ho hms.1 hm)) ?_
       refine oal [(1, [.int .i64 0]), (1, [.int .i64 0]), (1, [.int .i64 0]), (32, List.replicate 32 (.int .u8 0)), (32, List.replicate 32 (.int .u8 0)), (1, [.int .i64 0]), (1, [.int .i64 0]), (1, [.slice none 0 0]), (1, [.int .i64 0]), (1, [.int .i64 0]), (1, [.int .i64 0]), (1, [.int .i64 0]), (32, List.replicate 32 (.int .u8 0)), (32, List.replicate 32 (.int .u8 0))] (fun b7 => ?_)
       refine oas ?_
       refine osta 138 ?_
       refine nx ?_
       refine ov (vfa0 0 1) ?_
       refine ov vld ?_
       refine omv ?_
       refine ov (v2 V_eql) ?_
       refine nq ?_
       refine W.cond_dec rfl (fun g4 => ?_) (fun g4 => ?_)
       · refine W.seq ?_
         refine W.region ?_
         refine omv ?_
         refine oas ?_
         refine nq ?_
         refine W.exit ?_
         refine WQ.block_miss (by decide) ?_
         refine WQ.then_exit ?_
         refine WQ.then_exit ?_
         refine WQ.block_hit ?_
         refine WQ.then ?_
         refine W.seq ?_
         refine sr ?_
         refine omv ?_
         refine ov (v2 V_lss) ?_
         refine nq ?_
         refine W.cond_false rfl (by simp) ?_
         refine W.skip ?_
         refine WQ.then ?_
         refine W.seq ?_
         subst hgo
         rw [show gLM 138 (some (gb, gc, grs)) ms.length (ms.flatMap mlV) 68 = [(gb, .cells [(ms.length * 138, ms.flatMap mlV), ((gc - ms.length) * 138, grs)] 68)] from rfl]
         have hil : i < ms.length := (List.getElem?_eq_some_iff.1 hm).1
         rw [show ms.flatMap mbL = (ms.take i).flatMap mbL ++ (mbL m ++ (ms.drop (i + 1)).flatMap mbL) from by conv => lhs; rw [ml_split hm, List.flatMap_append, List.flatMap_cons]]
         refine W.region ?_
         refine omv ?_
         refine omv ?_
         refine ov vnil ?_
         refine ov (vfa0 0 1) ?_
         refine ov vld ?_
         refine omv ?_
         refine omv ?_
         first | refine ov vaddN ?_ | refine ov vadd ?_
         refine cg rfl (fun w hp => del19_calls gb ms.length gc i (ms.flatMap mlV) grs hil hgc (by omega) h138 mlV_one w (HP.here hp cov)) (fun b44 h44 => ?_)
         refine ov vnil ?_
         refine ov (vfa0 0 1) ?_
         refine ost ?_
         refine nx ?_
         refine oas ?_
         refine nq ?_
         refine W.ret ?_
         refine WQ.scope_ret ?_
         refine WQ.ret1 Try.results56 (.tmp rfl) ?_
         intro w' hp; obtain ⟨e1, e2⟩ := ack_yes (l := ms.map (·.1)) (many := many) (id := id) (i := i) (by omega) (aidx_at (mids hne) (by rw [List.getElem?_map, hm]; rfl) (by assumption)); rw [e1, e2]; refine ⟨(some (gb, gc, b44), ms.take i ++ ms.drop (i + 1)), ⟨by simp [List.map_take, List.map_drop], hms.cut, ?_⟩, rfl, ?_⟩
         · show _ ≤ gc; have := hms.cut (i := i); simp; omega
         · rw [flatMap_take' (fun m hm => mlV_len (hms.1 m hm)), flatMap_drop' (fun m hm => mlV_len (hms.1 m hm)), ← List.flatMap_append] at hp; have hnl : ms.length - 1 = (ms.take i ++ ms.drop (i + 1)).length := by simp; omega
           rw [hnl] at hp; dsimp only; rw [List.flatMap_append (f := mbL)]; exact hp.cov cov
       · refine W.skip ?_
         refine WQ.block_normal ?_
         refine WQ.then ?_
         refine W.region ?_
         first | refine ov vaddN ?_ | refine ov vadd ?_
         refine omv ?_
         refine WL.nil ?_
         exact ag (i + 1) [23, 0, 1, 4, 5, 17, 21, 22] (by (try dsimp only); exact ⟨by omega, fun k m' hk h' => by
           by_cases e2 : k = i
           · subst e2; rw [hm] at h'; cases h'; assumption
           · exact hne k m' (by omega) h'⟩) (by (try dsimp only); omega) rfl cov
     · refine W.exit ?_
       refine WQ.then_exit ?_
       refine WQ.then_exit ?_
       refine WQ.block_hit ?_
       refine WQ.then ?_
       refine W.seq ?_
       refine sr ?_
       refine omv ?_
       refine ov (v2 V_lss) ?_
       refine nq ?_
       refine W.cond_true rfl (by decide) ?_
       refine sr ?_
       refine oas ?_
       refine nq ?_
       refine W.ret ?_
       refine WQ.then_ret ?_
       refine WQ.scope_ret ?_
       refine WQ.ret1 Try.results56 (.tmp rfl) ?_
       intro w' hp; obtain rfl : i = ms.length := by omega
       obtain ⟨e1, e2⟩ := ack_old (l := ms.map (·.1)) (many := many) (id := id) (by omega) (aidx_end (fun k a hk => mids hne k a (by simpa using hk))); rw [e1, e2]; exact ⟨(o, ms), ⟨rfl, hms, ho⟩, rfl, hp.cov cov⟩

end Go.Proofs.Ytmeckbjinmgbbaa