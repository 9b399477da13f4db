/- StrikesApart: its walk. -/
import Derived.Test.YtnpnnafcdnefiaaStk6
import Derived.Test.YtnpnnafcdnefiaaXC
set_option linter.unusedVariables false
set_option linter.unusedSimpArgs false

namespace Go.Proofs.Ytnpnnafcdnefiaa
open Go.X
abbrev WM := List (KEnt Int)
def wE : KEnt Int → Ent := gE (Value.int .i64)
structure Ap (S : LS) (m : WM) (l : List Int) (i : Nat) : Prop where
  eq : m.map (fun e => (e.1, e.2.1)) = S.m.map (fun e => (e.1, e.2.1.a))
  ents : ∀ e ∈ S.m, (0 ≤ e.2.1.a ∧ e.2.1.a < 4) ∧ (0 ≤ e.2.1.t ∧ e.2.1.t ≤ 100) ∧ e.2.1.c = false
  had : ∀ k, k < i → ∃ s, S.get (l.getD k 0) = some s
  len : S.m.length ≤ i
theorem kget_eq {id : Int} : ∀ {m : WM} {n : List (KEnt Stk)}, m.map (fun e => (e.1, e.2.1)) = n.map (fun e => (e.1, e.2.1.a)) → kget m id = (kget n id).map (·.a)
  | [], [], _ => rfl
  | [], _ :: _, h => by cases h
  | _ :: _, [], h => by cases h
  | e :: m, f :: n, h => by
    simp only [List.map_cons, List.cons.injEq, Prod.mk.injEq] at h
    rw [kget_cons, kget_cons, kget_eq h.2, h.1.1, h.1.2]
    split <;> rfl
theorem Ap.get {S : LS} {m : WM} {l : List Int} {i : Nat} (h : Ap S m l i) {id : Int} : kget m id = (S.get id).map (·.a) := kget_eq h.eq
theorem Ap.mlen {S : LS} {m : WM} {l : List Int} {i : Nat} (h : Ap S m l i) : m.length = S.m.length := by
  have := congrArg List.length h.eq; simpa using this
theorem Ap.nil {l : List Int} : Ap ⟨[], 0⟩ [] l 0 := ⟨rfl, (fun e h => by cases h), (fun k h => by omega), Nat.le_refl _⟩
theorem Ap.old {S : LS} {m : WM} {l : List Int} {i : Nat} {s : Stk} (h : Ap S m l i) (hs : S.get (l.getD i 0) = some s) : Ap S m l (i + 1) :=
  ⟨h.eq, h.ents, fun k hk => by
    by_cases e : k = i
    · rw [e]; exact ⟨s, hs⟩
    · exact h.had k (by omega), by have := h.len; omega⟩
theorem Ap.add {S : LS} {m : WM} {l : List Int} {i ck : Nat} {a t : Int} (h : Ap S m l i) (hs : S.get (l.getD i 0) = none) (ha : 0 ≤ a ∧ a < 4) (ht : 0 ≤ t ∧ t ≤ 100) : Ap (S.put (l.getD i 0) ⟨a, t, false⟩) (kput m ck (l.getD i 0) a) l (i + 1) := by
  have hm : kget m (l.getD i 0) = none := by rw [h.get, hs]; rfl
  refine ⟨?_, fun e he => ?_, fun k hk => ?_, ?_⟩
  · show _ = (kput S.m S.ck _ _).map _
    rw [kput_new hm, kput_new hs, List.map_append, List.map_append, h.eq]; rfl
  · rcases kput_mem he with he | ⟨_, h2, _⟩
    · exact h.ents e he
    · rw [h2]; exact ⟨ha, ht, rfl⟩
  · rw [LS.get_put]
    by_cases e : l.getD i 0 = l.getD k 0
    · rw [if_pos e]; exact ⟨_, rfl⟩
    · rw [if_neg e]
      exact h.had k (by
        by_cases e2 : k = i
        · rw [e2] at e; exact absurd rfl e
        · omega)
  · have := put_len (S := S) (i := l.getD i 0) (s := ⟨a, t, false⟩); have := h.len; omega
theorem wget_some {S : LS} {m : WM} {l : List Int} {i : Nat} (h : Ap S m l i) {id : Int} {s : Stk} (hs : S.get id = some s) : mget (m.map wE) id = some (.int .i64 s.a) := by
  unfold wE; rw [mget_gE, h.get, hs]; rfl
theorem wget_no {S : LS} {m : WM} {l : List Int} {i : Nat} (h : Ap S m l i) {id : Int} (hs : S.get id = none) : mget (m.map wE) id = none := by
  unfold wE; rw [mget_gE, h.get, hs]; rfl
theorem wput {m : WM} {ck : Nat} {id a : Int} : mput (m.map wE) ck id (.int .i64 a) = (kput m ck id a).map wE := mput_gE (f := Value.int .i64)
theorem wclk {m : WM} {ck : Nat} {id : Int} : mclk (m.map wE) ck id = kck m ck id := mclk_gE (f := Value.int .i64)
theorem and3 {i : Nat} (h : i < 30) : 0 ≤ andI .i64 (i : Int) 3 ∧ andI .i64 (i : Int) 3 < 4 := by
  have key : ∀ i : Fin 30, 0 ≤ andI .i64 ((i : Nat) : Int) 3 ∧ andI .i64 ((i : Nat) : Int) 3 < 4 := by decide +kernel
  exact key ⟨i, h⟩
theorem cnt_sum : ∀ {m : List (KEnt Stk)}, (∀ e ∈ m, (0 ≤ e.2.1.a ∧ e.2.1.a < 4) ∧ (0 ≤ e.2.1.t ∧ e.2.1.t ≤ 100) ∧ e.2.1.c = false) → cnt m 0 100 + cnt m 1 100 + cnt m 2 100 + cnt m 3 100 = m.length ∧ ∀ a : Int, 4 ≤ a → cnt m a 100 = 0
  | [], _ => ⟨rfl, fun _ _ => rfl⟩
  | e :: m, h => by
    obtain ⟨h1, h2⟩ := cnt_sum (m := m) fun x hx => h x (List.mem_cons_of_mem _ hx)
    obtain ⟨⟨ha, hb⟩, ⟨ht, ht2⟩, hc⟩ := h e List.mem_cons_self
    have hk : ∀ a : Int, (cnB a 100 e.2.1 = true) ↔ e.2.1.a = a := fun a => by simp [cnB, hc]; omega
    refine ⟨?_, fun a ha4 => ?_⟩
    · rw [cnt_cons, cnt_cons, cnt_cons, cnt_cons]
      simp only [hk]
      have : e.2.1.a = 0 ∨ e.2.1.a = 1 ∨ e.2.1.a = 2 ∨ e.2.1.a = 3 := by omega
      rcases this with e0 | e0 | e0 | e0 <;> rw [e0] <;> simp <;> omega
    · rw [cnt_cons, h2 a ha4, if_neg (by rw [hk]; omega)]
def mny (S : LS) (q : Nat) : List Int := (List.range q).map (fun n => (cnt S.m (n : Nat) 100 : Int)) ++ List.replicate (8 - q) 0
theorem mny_len {S : LS} {q : Nat} (h : q ≤ 8) : (mny S q).length = 8 := by simp [mny]; omega
theorem mny_set {S : LS} {q : Nat} (h : q < 8) : (mny S q).set q (cnt S.m (q : Nat) 100 : Int) = mny S (q + 1) := by
  unfold mny
  rw [show 8 - q = (8 - (q + 1)) + 1 by omega, List.replicate_succ, List.set_append_right _ _ (by simp), List.length_map, List.length_range, Nat.sub_self, List.set_cons_zero, List.range_succ, List.map_append, List.append_assoc]
  rfl
theorem mny_get {S : LS} {k : Nat} (h : k < 8) : (mny S 8).getD k 0 = cnt S.m (k : Nat) 100 := by
  unfold mny
  rw [List.getD_eq_getElem?_getD, List.getElem?_append_left (by simpa using h), List.getElem?_map, List.getElem?_range h]; rfl

set_option maxHeartbeats 4000000 in
theorem strikesApart_calls (A : Option Addr) (n cap : Nat) (l : List Int) (A2 : Option Addr) (n2 cap2 : Nat) (l2 : List Int) (w : World) (hs : SrW w 1 A n (iv .i64 l)) (hs2 : SrW w 1 A2 n2 (iv .i64 l2)) (hlb : ∀ x ∈ l, -9223372036854775808 ≤ x ∧ x ≤ 9223372036854775807) (hlb2 : ∀ x ∈ l2, -9223372036854775808 ≤ x ∧ x ≤ 9223372036854775807) :
    Calls Try.prog 4 [.slice A n cap, .slice A2 n2 cap2].toArray w fun e w' => e = .returned (.bool true) ∧ HP w w' [] [] := by
 have k0 := newD_ok (n := 64) (by omega) (by omega)
 have hl := SrW.ilen hs
 have hl2 := SrW.ilen hs2
 refine calls_of_W Try.func4 rfl Try.ntmps4 rfl rfl (HP.refl w []) ?_
 refine sr ?_
 refine oas ?_
 refine nx ?_
 refine cp rfl (fun w hp => awake23_calls w) ?_
 refine oas ?_
 refine nx ?_
 refine cg rfl (fun w hp => new21_calls 64 (by omega) (by omega) w) (fun b23 h23 => ?_)
 refine omv ?_
 refine ov vex ?_
 refine ov vex ?_
 refine oas ?_
 refine oas ?_
 refine nx ?_
 refine omv ?_
 refine cgP _ rfl (fun w hp => begun23_calls b23 (newD 64) k0 w (HP.here hp cov)) (fun r28 h28 => ?_)
 simp only [List.cons_append, List.nil_append, List.append_nil, List.append_assoc]
 refine WL.back (gRL 5 31 r28.2.2.2) ?_
 simp only [List.cons_append, List.nil_append, List.append_nil, List.append_assoc]
 refine omv ?_
 refine ov vex ?_
 refine ov vex ?_
 refine oas ?_
 refine oas ?_
 refine nq ?_
 refine W.seq ?_
 refine W.seq ?_
 by_cases c1 : 30 < n
 · by_cases c2 : n2 < n
   · obtain ⟨hv0, hS0, hn0⟩ := LV.new (n := 64) (by omega) (by omega) h28.1 h28.2
     rw [hS0] at hv0 ⊢
     refine W.region ?_
     refine omv ?_
     refine ov (V_eqlP (by kernel_rfl) rfl rfl) ?_
     refine omv ?_
     refine oy rfl rfl ?_
     refine omv ?_
     refine oy rfl rfl ?_
     refine ov vlenS ?_
     refine oy rfl rfl ?_
     refine ov (v2 V_gtr) ?_
     refine ov (V_pick_f rfl rfl rfl) ?_
     refine omv ?_
     refine on rfl (decide_eq_true (by omega)) ?_
     refine on rfl (decide_eq_true (by omega)) ?_
     refine on rfl (decide_eq_true (by omega)) ?_
     refine on rfl (decide_eq_true (by omega)) ?_
     refine on rfl (decide_eq_true (by omega)) ?_
     refine ov (V_pick_t rfl (decide_eq_true (by omega)) rfl) ?_
     refine nq ?_
     refine W.cond_true rfl rfl ?_
     refine sr ?_
     refine omv ?_
     refine omv ?_
     refine oy rfl rfl ?_
     refine omv ?_
     refine oy rfl rfl ?_
     refine ov (V_neqP (by kernel_rfl) rfl rfl) ?_
     refine ov (V_pick_t rfl rfl rfl) ?_
     refine oas ?_
     refine nq ?_
     refine W.ret ?_
     refine WQ.then_ret ?_
     refine WQ.ret1 Try.results4 (.tmp rfl) ?_
     intro w' hp; exact ⟨by first | rfl | (simp; done) | (simp [*]; done) | simp_all, hp.forget⟩
   · obtain ⟨hv0, hS0, hn0⟩ := LV.new (n := 64) (by omega) (by omega) h28.1 h28.2
     rw [hS0] at hv0 ⊢
     refine W.region ?_
     refine omv ?_
     refine ov (V_eqlP (by kernel_rfl) rfl rfl) ?_
     refine omv ?_
     refine oy rfl rfl ?_
     refine omv ?_
     refine oy rfl rfl ?_
     refine ov vlenS ?_
     refine oy rfl rfl ?_
     refine ov (v2 V_gtr) ?_
     refine ov (V_pick_f rfl rfl rfl) ?_
     refine omv ?_
     refine on rfl (decide_eq_true (by omega)) ?_
     refine on rfl (decide_eq_true (by omega)) ?_
     refine on rfl (decide_eq_true (by omega)) ?_
     refine on rfl (decide_eq_true (by omega)) ?_
     refine on rfl (decide_eq_true (by omega)) ?_
     refine ov (V_pick_t rfl (decide_eq_true (by omega)) rfl) ?_
     refine nq ?_
     refine W.cond_true rfl rfl ?_
     refine sr ?_
     refine omv ?_
     refine omv ?_
     refine oy rfl rfl ?_
     refine omv ?_
     refine oy rfl rfl ?_
     refine ov (V_neqP (by kernel_rfl) rfl rfl) ?_
     refine ov (V_pick_t rfl rfl rfl) ?_
     refine oas ?_
     refine nq ?_
     refine W.ret ?_
     refine WQ.then_ret ?_
     refine WQ.ret1 Try.results4 (.tmp rfl) ?_
     intro w' hp; exact ⟨by first | rfl | (simp; done) | (simp [*]; done) | simp_all, hp.forget⟩
 · by_cases c2 : n2 < n
   · obtain ⟨hv0, hS0, hn0⟩ := LV.new (n := 64) (by omega) (by omega) h28.1 h28.2
     rw [hS0] at hv0 ⊢
     refine W.region ?_
     refine omv ?_
     refine ov (V_eqlP (by kernel_rfl) rfl rfl) ?_
     refine omv ?_
     refine oy rfl rfl ?_
     refine omv ?_
     refine oy rfl rfl ?_
     refine ov vlenS ?_
     refine oy rfl rfl ?_
     refine ov (v2 V_gtr) ?_
     refine ov (V_pick_f rfl rfl rfl) ?_
     refine omv ?_
     refine oy rfl (decide_eq_false (by omega)) ?_
     refine omv ?_
     refine oy rfl (decide_eq_false (by omega)) ?_
     refine ov vlenS ?_
     refine oy rfl (decide_eq_false (by omega)) ?_
     refine omv ?_
     refine oy rfl (decide_eq_false (by omega)) ?_
     refine ov vlenS ?_
     refine oy rfl (decide_eq_false (by omega)) ?_
     refine ov (v2 V_lss) ?_
     refine ov (V_pick_f rfl (decide_eq_false (by omega)) rfl) ?_
     refine nq ?_
     refine W.cond_true rfl (decide_eq_true (by omega)) ?_
     refine sr ?_
     refine omv ?_
     refine omv ?_
     refine oy rfl rfl ?_
     refine omv ?_
     refine oy rfl rfl ?_
     refine ov (V_neqP (by kernel_rfl) rfl rfl) ?_
     refine ov (V_pick_t rfl rfl rfl) ?_
     refine oas ?_
     refine nq ?_
     refine W.ret ?_
     refine WQ.then_ret ?_
     refine WQ.ret1 Try.results4 (.tmp rfl) ?_
     intro w' hp; exact ⟨by first | rfl | (simp; done) | (simp [*]; done) | simp_all, hp.forget⟩
   · obtain ⟨hv0, hS0, hn0⟩ := LV.new (n := 64) (by omega) (by omega) h28.1 h28.2
     rw [hS0] at hv0 ⊢
     refine W.region ?_
     refine omv ?_
     refine ov (V_eqlP (by kernel_rfl) rfl rfl) ?_
     refine omv ?_
     refine oy rfl rfl ?_
     refine omv ?_
     refine oy rfl rfl ?_
     refine ov vlenS ?_
     refine oy rfl rfl ?_
     refine ov (v2 V_gtr) ?_
     refine ov (V_pick_f rfl rfl rfl) ?_
     refine omv ?_
     refine oy rfl (decide_eq_false (by omega)) ?_
     refine omv ?_
     refine oy rfl (decide_eq_false (by omega)) ?_
     refine ov vlenS ?_
     refine oy rfl (decide_eq_false (by omega)) ?_
     refine omv ?_
     refine oy rfl (decide_eq_false (by omega)) ?_
     refine ov vlenS ?_
     refine oy rfl (decide_eq_false (by omega)) ?_
     refine ov (v2 V_lss) ?_
     refine ov (V_pick_f rfl (decide_eq_false (by omega)) rfl) ?_
     refine nq ?_
     refine W.cond_false rfl (decide_eq_false (by omega)) ?_
     refine W.skip ?_
     refine WQ.then ?_
     refine sr ?_
     refine omk (fun b50 => ?_)
     refine oas ?_
     refine nq ?_
     refine W.seq ?_
     refine sr ?_
     refine oas ?_
     refine nq ?_
     refine W.block ?_
     -- LOOP 0
     refine W.pick (S' := [(11, _), (0, _), (1, _), (4, _), (5, _), (6, _), (9, _), (10, _), (44, _)]) [11, 0, 1, 4, 5, 6, 9, 10, 44] rfl ?_
     refine W.loopG (σ := Nat × DS × GR × LS × WM × Nat) (fun ⟨i, D, g, S, m, ck⟩ => i ≤ n ∧ LV D g S 64 ∧ Ap S m l i ∧ g.rs.length ≤ i) (fun ⟨i, D, g, S, m, ck⟩ => [(11, .int .i64 (i : Nat))]) (fun ⟨i, D, g, S, m, ck⟩ => [(b23.d, .cells [(1, [.slice (some ⟨b23.s, 0, none⟩) D.n D.n]), (1, [.map (some b23.m)]), (1, [.int .i64 D.fuse]), (1, [.bool D.dead])] 101), (b23.s, .cells [(D.n * 64, iv .u8 D.sure.flatten)] 58), (b23.m, .obj (mapO .i64 (D.m.map sE) D.ck)), (r28.1, .cells [(1, [.pointer (some ⟨b23.d, 0, none⟩)]), (1, [.int .i64 (g.rs.length : Nat)]), (1, [.int .i64 (D.n : Nat)]), (1, [.slice (gA g.o) g.rs.length (gC g.o)])] 103), (r28.2.1, .cells [(1, [.pointer (some ⟨r28.1, 0, none⟩)]), (1, [.map (some r28.2.2.1)])] 121), (r28.2.2.1, .obj (mapO .i64 (S.m.map (gE stkV)) S.ck)), (b50, .obj (mapO .i64 (m.map wE) ck))]) [] (fun ⟨i, D, g, S, m, ck⟩ => gRL 5 31 g) (fun ⟨i, D, g, S, m, ck⟩ => n - i) (0, newD 64, r28.2.2.2, ⟨[], 0⟩, [], 0) rfl cov ⟨Nat.zero_le _, hv0, .nil, by omega⟩ ?_
     rintro ⟨i, D, g, S, m, ck⟩ ⟨hi, hv, hA, hg⟩; dsimp only at hi hv hA hg ⊢
     refine W.seq ?_
     refine sr ?_
     refine omv ?_
     refine omv ?_
     refine ov vlenS ?_
     refine ov (v2 V_lss) ?_
     refine nq ?_
     refine W.cond_dec rfl (fun g1 => ?_) (fun g1 => ?_)
     · refine W.skip ?_
       refine WQ.then ?_
       refine W.seq ?_
       refine W.block ?_
       refine W.seq ?_
       refine W.seq ?_
       have hlr := hlb (l.getD i 0) (by rw [List.getD_eq_getElem?_getD, List.getElem?_eq_getElem (by omega)]; exact List.getElem_mem (by omega))
       have hlr2 := hlb2 (l2.getD i 0) (by rw [List.getD_eq_getElem?_getD, List.getElem?_eq_getElem (by omega)]; exact List.getElem_mem (by omega))
       have han := and3 (i := i) (by omega)
       refine W.region ?_
       refine omv ?_
       refine omv ?_
       obtain ⟨bbA, ooA, rfl⟩ := hs.hasN sc
       refine ov (viO 1) ?_
       refine ov (vldS i hs) ?_
       refine ov (v2 V_lss) ?_
       refine omv ?_
       refine WL.splitD rfl (fun g2 => ?_) (fun g2 => ?_)
       · refine on rfl (decide_eq_true g2) ?_
         refine on rfl (decide_eq_true g2) ?_
         refine on rfl (decide_eq_true g2) ?_
         refine on rfl (decide_eq_true g2) ?_
         refine on rfl (decide_eq_true g2) ?_
         refine ov (V_pick_td rfl g2 rfl) ?_
         refine omv ?_
         refine on rfl rfl ?_
         refine on rfl rfl ?_
         refine on rfl rfl ?_
         refine on rfl rfl ?_
         refine on rfl rfl ?_
         refine ov (V_pick_t rfl rfl rfl) ?_
         refine omv ?_
         refine on rfl rfl ?_
         refine on rfl rfl ?_
         refine on rfl rfl ?_
         refine on rfl rfl ?_
         refine on rfl rfl ?_
         refine ov (V_pick_t rfl rfl rfl) ?_
         refine nq ?_
         refine W.cond_true rfl rfl ?_
         refine sr ?_
         refine omv ?_
         refine oas ?_
         refine nq ?_
         refine W.ret ?_
         refine WQ.then_ret ?_
         refine WQ.block_ret ?_
         refine WQ.then_ret ?_
         refine WQ.then_ret ?_
         refine WQ.block_ret ?_
         refine WQ.then_ret ?_
         refine WQ.ret1 Try.results4 (.tmp rfl) ?_
         intro w' hp; exact ⟨by first | rfl | (simp; done) | (simp [*]; done) | simp_all, hp.forget⟩
       · refine oy rfl (decide_eq_false g2) ?_
         refine omv ?_
         refine oy rfl (decide_eq_false g2) ?_
         refine omv ?_
         refine oy rfl (decide_eq_false g2) ?_
         refine ov (viO 1) ?_
         refine oy rfl (decide_eq_false g2) ?_
         refine ov (vldS i hs) ?_
         refine oy rfl (decide_eq_false g2) ?_
         refine ov (v2 V_gtr) ?_
         refine ov (V_pick_fd rfl g2 rfl) ?_
         refine omv ?_
         refine WL.splitD rfl (fun g3 => ?_) (fun g3 => ?_)
         · refine on rfl (decide_eq_true g3) ?_
           refine on rfl (decide_eq_true g3) ?_
           refine on rfl (decide_eq_true g3) ?_
           refine on rfl (decide_eq_true g3) ?_
           refine on rfl (decide_eq_true g3) ?_
           refine ov (V_pick_td rfl g3 rfl) ?_
           refine omv ?_
           refine on rfl rfl ?_
           refine on rfl rfl ?_
           refine on rfl rfl ?_
           refine on rfl rfl ?_
           refine on rfl rfl ?_
           refine ov (V_pick_t rfl rfl rfl) ?_
           refine nq ?_
           refine W.cond_true rfl rfl ?_
           refine sr ?_
           refine omv ?_
           refine oas ?_
           refine nq ?_
           refine W.ret ?_
           refine WQ.then_ret ?_
           refine WQ.block_ret ?_
           refine WQ.then_ret ?_
           refine WQ.then_ret ?_
           refine WQ.block_ret ?_
           refine WQ.then_ret ?_
           refine WQ.ret1 Try.results4 (.tmp rfl) ?_
           intro w' hp; exact ⟨by first | rfl | (simp; done) | (simp [*]; done) | simp_all, hp.forget⟩
         · refine oy rfl (decide_eq_false g3) ?_
           refine omv ?_
           refine oy rfl (decide_eq_false g3) ?_
           refine omv ?_
           obtain ⟨bbA2, ooA2, rfl⟩ := hs2.hasN sc
           refine oy rfl (decide_eq_false g3) ?_
           refine ov (viO 1) ?_
           refine oy rfl (decide_eq_false g3) ?_
           refine ov (vldS i hs2) ?_
           refine oy rfl (decide_eq_false g3) ?_
           refine ov (v2 V_lss) ?_
           refine ov (V_pick_fd rfl g3 rfl) ?_
           refine omv ?_
           refine WL.splitD rfl (fun g4 => ?_) (fun g4 => ?_)
           · refine on rfl (decide_eq_true g4) ?_
             refine on rfl (decide_eq_true g4) ?_
             refine on rfl (decide_eq_true g4) ?_
             refine on rfl (decide_eq_true g4) ?_
             refine on rfl (decide_eq_true g4) ?_
             refine ov (V_pick_td rfl g4 rfl) ?_
             refine nq ?_
             refine W.cond_true rfl rfl ?_
             refine sr ?_
             refine omv ?_
             refine oas ?_
             refine nq ?_
             refine W.ret ?_
             refine WQ.then_ret ?_
             refine WQ.block_ret ?_
             refine WQ.then_ret ?_
             refine WQ.then_ret ?_
             refine WQ.block_ret ?_
             refine WQ.then_ret ?_
             refine WQ.ret1 Try.results4 (.tmp rfl) ?_
             intro w' hp; exact ⟨by first | rfl | (simp; done) | (simp [*]; done) | simp_all, hp.forget⟩
           · refine oy rfl (decide_eq_false g4) ?_
             refine omv ?_
             refine oy rfl (decide_eq_false g4) ?_
             refine omv ?_
             refine oy rfl (decide_eq_false g4) ?_
             refine ov (viO 1) ?_
             refine oy rfl (decide_eq_false g4) ?_
             refine ov (vldS i hs2) ?_
             refine oy rfl (decide_eq_false g4) ?_
             refine ov (v2 V_gtr) ?_
             refine ov (V_pick_fd rfl g4 rfl) ?_
             refine nq ?_
             refine W.cond_dec rfl (fun g5 => ?_) (fun g5 => ?_)
             · refine W.seq ?_
               refine W.region ?_
               refine omv ?_
               refine oas ?_
               refine nq ?_
               refine W.ret ?_
               refine WQ.then_ret ?_
               refine WQ.block_ret ?_
               refine WQ.then_ret ?_
               refine WQ.then_ret ?_
               refine WQ.block_ret ?_
               refine WQ.then_ret ?_
               refine WQ.ret1 Try.results4 (.tmp rfl) ?_
               intro w' hp; exact ⟨by first | rfl | (simp; done) | (simp [*]; done) | simp_all, hp.forget⟩
             · refine W.skip ?_
               refine WQ.then ?_
               refine W.seq ?_
               by_cases hq : ∃ s, S.get (l.getD i 0) = some s
               · obtain ⟨s, hq⟩ := hq
                 refine W.region ?_
                 refine omv ?_
                 refine omv ?_
                 refine omv ?_
                 refine ov (viO 1) ?_
                 refine ov (vldS i hs) ?_
                 refine ov (vlkS (wget_some hA hq)) ?_
                 refine omv ?_
                 refine ov vex ?_
                 refine ov vex ?_
                 refine oas ?_
                 refine oas ?_
                 refine nq ?_
                 refine W.seq ?_
                 refine dr (.q 0 (.q 1 (.q 2 (.q 3 (.q 4 (.q 5 (.q 6 (.q 7 (.q 8 (.q 9 (.q 10 (.l 11 (.q 12 (.done)))))))))))))) [] ?_
                 refine dq rfl (V_move rfl) ?_
                 refine dq rfl (V_move rfl) ?_
                 refine dq rfl (v2 V_and) ?_
                 refine dq rfl (V_move rfl) ?_
                 refine dq rfl (V_move rfl) ?_
                 refine dq rfl (viO 1) ?_
                 refine dq rfl (vldS i hs) ?_
                 refine dq rfl (V_move rfl) ?_
                 refine dq rfl (V_move rfl) ?_
                 refine dq rfl (viO 1) ?_
                 refine dq rfl (vldS i hs2) ?_
                 refine WD.l ?_
                 refine dcgP _ rfl rfl (fun w hp => add23_calls b23 D hv.ok r28.1 g hv.gok hv.gn r28.2.1 r28.2.2.1 S hv.ls (andI .i64 (i : Int) 3) (l.getD i 0) (l2.getD i 0) w (HP.here hp cov)) (fun r104 h104 => ?_)
                 simp only [List.cons_append, List.nil_append, List.append_nil, List.append_assoc]
                 refine WD.back (gRL 5 31 r104) ?_
                 simp only [List.cons_append, List.nil_append, List.append_nil, List.append_assoc]
                 refine dq rfl (V_assign rfl) ?_
                 refine WD.done ?_
                 refine WQ.then ?_
                 refine W.seq ?_
                 refine W.seq ?_
                 obtain ⟨e1, e2, hv1, hn1⟩ := hv.twice ⟨by omega, by omega⟩ ⟨by omega, by omega⟩ hq h104
                 rw [e1, e2]
                 generalize goD D g.rs.length (adQ S (andI .i64 (i : Int) 3) (l.getD i 0) (l2.getD i 0)) = D1 at hv1 ⊢
                 refine W.region ?_
                 refine omv ?_
                 refine omv ?_
                 refine ov (v2 V_eql) ?_
                 refine ov (V_neqB (by kernel_rfl) rfl rfl) ?_
                 refine omv ?_
                 refine oy rfl (by decide) ?_
                 refine omv ?_
                 refine oy rfl (by decide) ?_
                 refine ov vnot ?_
                 refine oy rfl (by decide) ?_
                 refine omv ?_
                 refine on rfl rfl ?_
                 refine on rfl rfl ?_
                 refine oy rfl (by decide) ?_
                 refine ov (V_pick_f rfl rfl rfl) ?_
                 refine ov (V_pick_f rfl (by decide) rfl) ?_
                 refine nq ?_
                 refine W.cond_false rfl rfl ?_
                 refine W.skip ?_
                 refine WQ.then ?_
                 refine sr ?_
                 refine omv ?_
                 refine ov vnot ?_
                 refine nq ?_
                 refine W.cond_false rfl rfl ?_
                 refine W.skip ?_
                 refine WQ.block_normal ?_
                 refine WQ.then ?_
                 refine W.region ?_
                 refine omv ?_
                 first | refine ov vaddN ?_ | refine ov vadd ?_
                 refine oas ?_
                 refine WL.nil ?_
                 exact ag (i + 1, D1, r104, S, m, ck) [11, 0, 1, 4, 5, 6, 9, 10, 44] (by (try dsimp only); exact ⟨by omega, hv1, hA.old hq, by omega⟩) (by (try dsimp only); omega) rfl cov
               · have hq : S.get (l.getD i 0) = none := by cases hx : S.get (l.getD i 0) with | none => rfl | some s => exact absurd ⟨s, hx⟩ hq
                 refine W.region ?_
                 refine omv ?_
                 refine omv ?_
                 refine omv ?_
                 refine ov (viO 1) ?_
                 refine ov (vldS i hs) ?_
                 refine ov (vlkN 3 (.int .i64 0) (wget_no hA hq)) ?_
                 refine omv ?_
                 refine ov vex ?_
                 refine ov vex ?_
                 refine oas ?_
                 refine oas ?_
                 refine nq ?_
                 refine W.seq ?_
                 refine dr (.q 0 (.q 1 (.q 2 (.q 3 (.q 4 (.q 5 (.q 6 (.q 7 (.q 8 (.q 9 (.q 10 (.l 11 (.q 12 (.done)))))))))))))) [] ?_
                 refine dq rfl (V_move rfl) ?_
                 refine dq rfl (V_move rfl) ?_
                 refine dq rfl (v2 V_and) ?_
                 refine dq rfl (V_move rfl) ?_
                 refine dq rfl (V_move rfl) ?_
                 refine dq rfl (viO 1) ?_
                 refine dq rfl (vldS i hs) ?_
                 refine dq rfl (V_move rfl) ?_
                 refine dq rfl (V_move rfl) ?_
                 refine dq rfl (viO 1) ?_
                 refine dq rfl (vldS i hs2) ?_
                 refine WD.l ?_
                 refine dcgP _ rfl rfl (fun w hp => add23_calls b23 D hv.ok r28.1 g hv.gok hv.gn r28.2.1 r28.2.2.1 S hv.ls (andI .i64 (i : Int) 3) (l.getD i 0) (l2.getD i 0) w (HP.here hp cov)) (fun r104 h104 => ?_)
                 simp only [List.cons_append, List.nil_append, List.append_nil, List.append_assoc]
                 refine WD.back (gRL 5 31 r104) ?_
                 simp only [List.cons_append, List.nil_append, List.append_nil, List.append_assoc]
                 refine dq rfl (V_assign rfl) ?_
                 refine WD.done ?_
                 refine WQ.then ?_
                 refine W.seq ?_
                 refine W.seq ?_
                 obtain ⟨e1, e2, hv1, hn1⟩ := hv.add ⟨by omega, by omega⟩ ⟨by omega, by omega⟩ ⟨by omega, by omega⟩ hq (by omega) (by have := hA.len; omega) h104
                 rw [e1, e2]
                 generalize goD D g.rs.length (adQ S (andI .i64 (i : Int) 3) (l.getD i 0) (l2.getD i 0)) = D1 at hv1 ⊢
                 refine W.region ?_
                 refine omv ?_
                 refine omv ?_
                 refine ov (v2 V_eql) ?_
                 refine ov (V_neqB (by kernel_rfl) rfl rfl) ?_
                 refine omv ?_
                 refine oy rfl (by decide) ?_
                 refine omv ?_
                 refine oy rfl (by decide) ?_
                 refine ov vnot ?_
                 refine oy rfl (by decide) ?_
                 refine omv ?_
                 refine oy rfl rfl ?_
                 refine omv ?_
                 refine oy rfl rfl ?_
                 refine ov (v2 V_neq) ?_
                 refine oy rfl (by decide) ?_
                 refine ov (V_pick_t rfl rfl rfl) ?_
                 refine ov (V_pick_f rfl (by decide) rfl) ?_
                 refine nq ?_
                 refine W.cond_false rfl (by decide) ?_
                 refine W.skip ?_
                 refine WQ.then ?_
                 refine sr ?_
                 refine omv ?_
                 refine ov vnot ?_
                 refine nq ?_
                 refine W.cond_true rfl rfl ?_
                 refine W.region ?_
                 refine omv ?_
                 refine omv ?_
                 refine omv ?_
                 refine ov (viO 1) ?_
                 refine ov (vldS i hs) ?_
                 refine omv ?_
                 refine ov (v2 V_and) ?_
                 refine omu ?_
                 refine WL.nil ?_
                 refine WQ.block_normal ?_
                 refine WQ.then ?_
                 refine W.region ?_
                 refine omv ?_
                 first | refine ov vaddN ?_ | refine ov vadd ?_
                 refine oas ?_
                 refine WL.nil ?_
                 rw [wput, wclk]
                 exact ag (i + 1, D1, r104, (S.put (l.getD i 0) ⟨(andI .i64 (i : Int) 3), l2.getD i 0, false⟩), kput m ck (l.getD i 0) (andI .i64 (i : Int) 3), kck m ck (l.getD i 0)) [11, 0, 1, 4, 5, 6, 9, 10, 44] (by (try dsimp only); exact ⟨by omega, hv1, hA.add hq han ⟨by omega, by omega⟩, by omega⟩) (by (try dsimp only); omega) rfl cov
     · refine W.exit ?_
       refine WQ.then_exit ?_
       refine WQ.then_exit ?_
       refine WQ.block_hit ?_
       refine WQ.then ?_
       refine sr ?_
       refine ov (vbI 8 .i64 0 []) ?_
       refine oal [(8, List.replicate 8 (.int .i64 0))] (fun b15 => ?_)
       refine osta 8 ?_
       refine nq ?_
       refine W.seq ?_
       refine sr ?_
       refine oas ?_
       refine nq ?_
       refine W.block ?_
       -- LOOP 1
       refine W.pick (S' := [(16, _), (0, _), (1, _), (4, _), (5, _), (6, _), (9, _), (10, _), (11, _), (15, _), (44, _), (54, _)]) [16, 0, 1, 4, 5, 6, 9, 10, 11, 15, 44, 54] rfl ?_
       refine W.loopG (σ := Nat) (fun q => q ≤ n) (fun q => [(16, .int .i64 (q : Nat))]) (fun q => [(b23.d, .cells [(1, [.slice (some ⟨b23.s, 0, none⟩) D.n D.n]), (1, [.map (some b23.m)]), (1, [.int .i64 D.fuse]), (1, [.bool D.dead])] 101), (b23.s, .cells [(D.n * 64, iv .u8 D.sure.flatten)] 58), (b23.m, .obj (mapO .i64 (D.m.map sE) D.ck)), (r28.1, .cells [(1, [.pointer (some ⟨b23.d, 0, none⟩)]), (1, [.int .i64 (g.rs.length : Nat)]), (1, [.int .i64 (D.n : Nat)]), (1, [.slice (gA g.o) g.rs.length (gC g.o)])] 103), (r28.2.1, .cells [(1, [.pointer (some ⟨r28.1, 0, none⟩)]), (1, [.map (some r28.2.2.1)])] 121), (r28.2.2.1, .obj (mapO .i64 (S.m.map (gE stkV)) S.ck)), (b50, .obj (mapO .i64 (m.map wE) ck)), (b15, .cells [(8, iv .i64 (mny S 0))] 43)]) [] (fun q => gRL 5 31 g) (fun q => n - q) 0 rfl cov (Nat.zero_le _) ?_
       rintro q hi
       refine W.seq ?_
       refine sr ?_
       refine omv ?_
       refine omv ?_
       refine ov vlenS ?_
       refine ov (v2 V_lss) ?_
       refine nq ?_
       refine W.cond_dec rfl (fun g6 => ?_) (fun g6 => ?_)
       · refine W.skip ?_
         refine WQ.then ?_
         refine W.seq ?_
         refine W.block ?_
         refine W.seq ?_
         obtain ⟨s, hq⟩ := hA.had q (by omega)
         obtain ⟨f1, f2⟩ := ofS_some hq
         obtain ⟨kn, hkn⟩ := kget_mem hq
         obtain ⟨hsa, hst, hsc⟩ := hA.ents _ hkn
         dsimp only at hsa hst hsc
         refine W.region ?_
         refine omv ?_
         refine omv ?_
         refine omv ?_
         obtain ⟨bbA, ooA, rfl⟩ := hs.hasN sc
         refine ov (viO 1) ?_
         refine ov (vldS q hs) ?_
         refine cms rfl (fun w hp => of23_calls r28.2.1 r28.2.2.1 r28.1 S hv.ls (l.getD q 0) w (HP.here hp cov)) ?_
         refine omv ?_
         refine ov vex ?_
         refine ov vex ?_
         refine ov vex ?_
         refine oas ?_
         refine oas ?_
         refine oas ?_
         refine nq ?_
         refine W.seq ?_
         rw [f1, f2, hsc]
         refine W.region ?_
         refine omv ?_
         refine ov vnot ?_
         refine omv ?_
         refine oy rfl rfl ?_
         refine omv ?_
         refine ov (V_pick_f rfl rfl rfl) ?_
         refine omv ?_
         refine oy rfl rfl ?_
         refine omv ?_
         refine oy rfl rfl ?_
         refine omv ?_
         refine oy rfl rfl ?_
         refine omv ?_
         refine oy rfl rfl ?_
         refine omv ?_
         refine oy rfl rfl ?_
         refine ov (viO 1) ?_
         refine oy rfl rfl ?_
         refine ov (vldS q hs) ?_
         refine oy rfl rfl ?_
         refine ov (vlkZ 3 (.int .i64 0) (.int .i64 s.a) (by rw [wget_some hA hq]; rfl)) ?_
         refine oy rfl rfl ?_
         refine ov (v2 V_neq) ?_
         refine ov (V_pick_f rfl rfl rfl) ?_
         refine nq ?_
         refine W.cond_false rfl (by simp) ?_
         refine W.skip ?_
         refine WQ.block_normal ?_
         refine WQ.then ?_
         refine W.region ?_
         refine omv ?_
         first | refine ov vaddN ?_ | refine ov vadd ?_
         refine oas ?_
         refine WL.nil ?_
         exact ag (q + 1) [16, 0, 1, 4, 5, 6, 9, 10, 11, 15, 44, 54] (sc) (by (try dsimp only); omega) rfl cov
       · refine W.exit ?_
         refine WQ.then_exit ?_
         refine WQ.then_exit ?_
         refine WQ.block_hit ?_
         refine WQ.then ?_
         refine W.seq ?_
         refine sr ?_
         refine oas ?_
         refine nq ?_
         refine W.block ?_
         -- LOOP 2
         refine W.pick (S' := [(20, _), (0, _), (1, _), (4, _), (5, _), (6, _), (9, _), (10, _), (11, _), (15, _), (16, _), (44, _), (54, _), (130, _)]) [20, 0, 1, 4, 5, 6, 9, 10, 11, 15, 16, 44, 54, 130] rfl ?_
         refine W.loopG (σ := Nat) (fun q => q ≤ 8) (fun q => [(20, .int .i64 (q : Nat))]) (fun q => [(b23.d, .cells [(1, [.slice (some ⟨b23.s, 0, none⟩) D.n D.n]), (1, [.map (some b23.m)]), (1, [.int .i64 D.fuse]), (1, [.bool D.dead])] 101), (b23.s, .cells [(D.n * 64, iv .u8 D.sure.flatten)] 58), (b23.m, .obj (mapO .i64 (D.m.map sE) D.ck)), (r28.1, .cells [(1, [.pointer (some ⟨b23.d, 0, none⟩)]), (1, [.int .i64 (g.rs.length : Nat)]), (1, [.int .i64 (D.n : Nat)]), (1, [.slice (gA g.o) g.rs.length (gC g.o)])] 103), (r28.2.1, .cells [(1, [.pointer (some ⟨r28.1, 0, none⟩)]), (1, [.map (some r28.2.2.1)])] 121), (r28.2.2.1, .obj (mapO .i64 (S.m.map (gE stkV)) S.ck)), (b50, .obj (mapO .i64 (m.map wE) ck)), (b15, .cells [(8, iv .i64 (mny S q))] 43)]) [] (fun q => gRL 5 31 g) (fun q => 8 - q) 0 rfl cov (Nat.zero_le _) ?_
         rintro q hq8; dsimp only at hq8 ⊢
         have hmny := mny_len (S := S) hq8
         refine W.seq ?_
         refine sr ?_
         refine omv ?_
         refine ov (v2 V_lss) ?_
         refine nq ?_
         refine W.cond_dec rfl (fun g7 => ?_) (fun g7 => ?_)
         · refine W.skip ?_
           refine WQ.then ?_
           refine W.seq ?_
           refine W.block ?_
           refine W.region ?_
           refine omv ?_
           refine omv ?_
           refine omv ?_
           refine cms rfl (fun w hp => count23_calls r28.2.1 r28.2.2.1 r28.1 S hv.ls hv.sm (q : Nat) 100 (by omega) w (HP.here hp cov)) ?_
           first | refine ov (viA0 8) ?_ | refine ov (viA0Z 8) ?_
           first | refine ostI ?_ | refine ost ?_
           refine WL.nil ?_
           refine WQ.block_normal ?_
           refine WQ.then ?_
           refine W.region ?_
           refine omv ?_
           first | refine ov vaddN ?_ | refine ov vadd ?_
           refine oas ?_
           refine WL.nil ?_
           rw [mny_set (by omega)]
           exact ag (q + 1) [20, 0, 1, 4, 5, 6, 9, 10, 11, 15, 16, 44, 54, 130] (sc) (by (try dsimp only); omega) rfl cov
         · refine W.exit ?_
           refine WQ.then_exit ?_
           refine WQ.then_exit ?_
           refine WQ.block_hit ?_
           refine WQ.then ?_
           refine W.seq ?_
           obtain rfl : q = 8 := by omega
           obtain ⟨hs1, hs2⟩ := cnt_sum hA.ents
           have hm0 : (mny S 8).getD 0 0 = cnt S.m 0 100 := mny_get (by decide)
           have hm1 : (mny S 8).getD 1 0 = cnt S.m 1 100 := mny_get (by decide)
           have hm2 : (mny S 8).getD 2 0 = cnt S.m 2 100 := mny_get (by decide)
           have hm3 : (mny S 8).getD 3 0 = cnt S.m 3 100 := mny_get (by decide)
           have hm4 : (mny S 8).getD 4 0 = cnt S.m 4 100 := mny_get (by decide)
           have hm5 : (mny S 8).getD 5 0 = cnt S.m 5 100 := mny_get (by decide)
           have hm6 : (mny S 8).getD 6 0 = cnt S.m 6 100 := mny_get (by decide)
           have hm7 : (mny S 8).getD 7 0 = cnt S.m 7 100 := mny_get (by decide)
           have hz4 := hs2 4 (by omega)
           have hz5 := hs2 5 (by omega)
           have hz6 := hs2 6 (by omega)
           have hz7 := hs2 7 (by omega)
           have hml := hA.mlen
           have hal := hA.len
           have hmw : (m.map wE).length = m.length := List.length_map ..
           refine W.region ?_
           refine omv ?_
           refine omv ?_
           refine oy rfl rfl ?_
           refine ov (viA0 (j := 0) 8) ?_
           refine oy rfl rfl ?_
           first | refine ov vldI ?_ | refine ov vld ?_
           refine oy rfl rfl ?_
           refine ov (viA0 (j := 1) 8) ?_
           refine oy rfl rfl ?_
           first | refine ov vldI ?_ | refine ov vld ?_
           refine oy rfl rfl ?_
           first | refine ov vaddN ?_ | refine ov vadd ?_
           refine oy rfl rfl ?_
           refine ov (viA0 (j := 2) 8) ?_
           refine oy rfl rfl ?_
           first | refine ov vldI ?_ | refine ov vld ?_
           refine oy rfl rfl ?_
           first | refine ov vaddN ?_ | refine ov vadd ?_
           refine oy rfl rfl ?_
           refine ov (viA0 (j := 3) 8) ?_
           refine oy rfl rfl ?_
           first | refine ov vldI ?_ | refine ov vld ?_
           refine oy rfl rfl ?_
           first | refine ov vaddN ?_ | refine ov vadd ?_
           refine oy rfl rfl ?_
           refine omv ?_
           refine oy rfl rfl ?_
           refine ov (vlenM) ?_
           refine oy rfl rfl ?_
           refine ov (v2 V_eql) ?_
           refine ov (V_pick_t rfl rfl rfl) ?_
           refine omv ?_
           refine oy rfl (decide_eq_true (by omega)) ?_
           refine ov (viA0 (j := 4) 8) ?_
           refine oy rfl (decide_eq_true (by omega)) ?_
           first | refine ov vldI ?_ | refine ov vld ?_
           refine oy rfl (decide_eq_true (by omega)) ?_
           refine ov (viA0 (j := 5) 8) ?_
           refine oy rfl (decide_eq_true (by omega)) ?_
           first | refine ov vldI ?_ | refine ov vld ?_
           refine oy rfl (decide_eq_true (by omega)) ?_
           first | refine ov vaddN ?_ | refine ov vadd ?_
           refine oy rfl (decide_eq_true (by omega)) ?_
           refine ov (viA0 (j := 6) 8) ?_
           refine oy rfl (decide_eq_true (by omega)) ?_
           first | refine ov vldI ?_ | refine ov vld ?_
           refine oy rfl (decide_eq_true (by omega)) ?_
           first | refine ov vaddN ?_ | refine ov vadd ?_
           refine oy rfl (decide_eq_true (by omega)) ?_
           refine ov (viA0 (j := 7) 8) ?_
           refine oy rfl (decide_eq_true (by omega)) ?_
           first | refine ov vldI ?_ | refine ov vld ?_
           refine oy rfl (decide_eq_true (by omega)) ?_
           first | refine ov vaddN ?_ | refine ov vadd ?_
           refine oy rfl (decide_eq_true (by omega)) ?_
           refine ov (v2 V_eql) ?_
           refine ov (V_pick_t rfl (decide_eq_true (by omega)) rfl) ?_
           refine oas ?_
           refine nq ?_
           refine W.ret ?_
           refine WQ.ret1 Try.results4 (.tmp rfl) ?_
           intro w' hp; exact ⟨by first | rfl | (simp; done) | (simp [*]; done) | simp_all, hp.forget⟩

end Go.Proofs.Ytnpnnafcdnefiaa