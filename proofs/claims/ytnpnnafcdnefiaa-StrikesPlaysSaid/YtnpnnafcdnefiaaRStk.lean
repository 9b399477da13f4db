/- Strikes: the document's answer: where one is; a record gone through. -/
import Derived.Test.YtnpnnafcdnefiaaStk6
import Derived.Test.YtnpnnafcdnefiaaXC
set_option linter.unusedVariables false
set_option linter.unusedSimpArgs false

namespace Go.Proofs.Ytnpnnafcdnefiaa
open Go.X
def rsV (e : KEnt Stk) : List Value := [.int .i64 e.1, .int .i64 e.2.1.a, .int .i64 e.2.1.t, .bool e.2.1.c]
theorem rsV_len (e : KEnt Stk) : (rsV e).length = 4 := rfl
theorem rsV_one {m : List (KEnt Stk)} : ∀ v ∈ m.flatMap rsV, Go.X.one v = true := fun v hv => by
  obtain ⟨e, _, he⟩ := List.mem_flatMap.1 hv
  simp [rsV] at he
  rcases he with rfl | rfl | rfl | rfl <;> rfl
def rL (o : Gr) (S : LS) : List (Nat × Blk) := gLM 4 o S.m.length (S.m.flatMap rsV) 140
theorem rlS {w0 w : World} {O : List Nat} {L L' : List (Nat × Blk)} {o : Gr} {S : LS} (hp : HP w0 w O L) (ho : GrOK o S.m.length) (hd : DelL (rL o S) L L' := by exact dell) : SrW w 4 (gA o) S.m.length (S.m.flatMap rsV) :=
  HP.sgrM hp hd (flatMap_len rsV_len) ho rsV_one
def kidx {α : Type} : List (KEnt α) → Int → Option Nat
  | [], _ => none
  | e :: m, i => if e.1 = i then some 0 else (kidx m i).map (· + 1)
theorem kidx_some {α : Type} {i : Int} {s' : α} {ck : Nat} : ∀ {m : List (KEnt α)} {s : α}, kget m i = some s → ∃ n b, kidx m i = some n ∧ m[n]? = some (i, s, b) ∧ kput m ck i s' = m.set n (i, s', b)
  | [], s, h => by cases h
  | e :: m, s, h => by
    unfold kget at h
    by_cases hi : e.1 = i
    · rw [if_pos hi] at h; cases h
      exact ⟨0, e.2.2, by unfold kidx; rw [if_pos hi], by rw [← hi]; rfl, by rw [kput_cons, if_pos hi, hi]; rfl⟩
    · rw [if_neg hi] at h
      obtain ⟨n, b, h1, h2, h3⟩ := kidx_some (s' := s') (ck := ck) h
      exact ⟨n + 1, b, by unfold kidx; rw [if_neg hi, h1]; rfl, h2, by rw [kput_cons, if_neg hi, h3]; rfl⟩
theorem kidx_none {α : Type} {i : Int} : ∀ {m : List (KEnt α)}, kget m i = none → kidx m i = none
  | [], _ => rfl
  | e :: m, h => by
    unfold kget at h
    by_cases hi : e.1 = i
    · rw [if_pos hi] at h; cases h
    · rw [if_neg hi] at h
      unfold kidx; rw [if_neg hi, kidx_none h]; rfl
theorem kidx_at {α : Type} {i : Int} : ∀ {m : List (KEnt α)} {n : Nat} {e : KEnt α}, (∀ k e', k < n → m[k]? = some e' → e'.1 ≠ i) → m[n]? = some e → e.1 = i → kidx m i = some n
  | [], n, e, _, h, _ => by simp at h
  | a :: m, 0, e, _, h, he => by
    simp at h; subst h
    unfold kidx; rw [if_pos he]
  | a :: m, n + 1, e, hn, h, he => by
    have h0 := hn 0 a (by omega) rfl
    unfold kidx
    rw [if_neg h0, kidx_at (m := m) (n := n) (fun k e' hk h' => hn (k + 1) e' (by omega) h') (by simpa using h) he]; rfl
theorem kidx_end {α : Type} {i : Int} : ∀ {m : List (KEnt α)}, (∀ k e', k < m.length → m[k]? = some e' → e'.1 ≠ i) → kidx m i = none
  | [], _ => rfl
  | a :: m, hn => by
    have h0 := hn 0 a (by simp) rfl
    unfold kidx
    rw [if_neg h0, kidx_end (m := m) fun k e' hk h' => hn (k + 1) e' (by simp; omega) h']; rfl
def atI (m : List (KEnt Stk)) (i : Int) : Int := (kidx m i).elim (-1) fun n => (n : Int)
section
variable {c : Cx} {Q : Post} {S : Slots} {L L' : List (Nat × Blk)} {ty T : TypeId} {x ix : Operand} {i : Nat} {v : Value}
theorem viRM {o : Gr} {b cc len cap : Nat} {rs : List Value} {k : IntKind} (s : Nat) (ho : o = some (b, cc, rs)) (hx : ev S x = some (.slice (gA o) len cap) := by exact rfl) (hi : ev S ix = some (.int k (i : Int)) := by exact rfl) (hj : i < len := by omega) (ht : slB c.P T s = true := by kernel_rfl) : Val c S L (.indexAddr T x ix) ty (.pointer (some ⟨b, 0 + i * s, none⟩)) := by
  subst ho; exact viO s hx hi hj ht
theorem vldRM {o : Gr} {A : LS} {b cc q : Nat} {rs : List Value} {e : KEnt Stk} (j k : Nat) (ho : o = some (b, cc, rs)) (hg : GrOK o A.m.length) (ha : A.m[j]? = some e) (hd : DelL (rL o A) L L' := by exact dell) (ht : scB c.P T = true := by kernel_rfl) (hx : ev S x = some (.pointer (some ⟨b, q, none⟩)) := by exact rfl)
    (hk : k < 4 := by omega) (hq : q = 0 + (j * 4 + k) := by omega) (hv : (rsV e)[k]? = some v := by rfl) : Val c S L (.load T x) ty v :=
  vldOs 4 j k rsV_len (fun w hp => by have := rlS hp hg hd; rw [ho] at this; exact this) ha ht hx hk hq hv
theorem vldRMA {o : Gr} {A : LS} {b cc q : Nat} {rs : List Value} {e : KEnt Stk} (j : Nat) (ho : o = some (b, cc, rs)) (hg : GrOK o A.m.length) (ha : A.m[j]? = some e) (hd : DelL (rL o A) L L' := by exact dell) (ht : agB c.P T 4 = true := by kernel_rfl) (hx : ev S x = some (.pointer (some ⟨b, q, none⟩)) := by exact rfl)
    (hq : q = 0 + j * 4 := by omega) : Val c S L (.load T x) ty (AG [(1, [.int .i64 e.1]), (1, [.int .i64 e.2.1.a]), (1, [.int .i64 e.2.1.t]), (1, [.bool e.2.1.c])]) :=
  vldOAs 4 j rsV_len (fun w hp => by have := rlS hp hg hd; rw [ho] at this; exact this) ha rfl ht hx hq
end

theorem rtime23_calls (n : Int) (w : World) : Calls Try.prog 68 [.int .i64 n].toArray w fun e w' => e = .returned (.bool (tmB n)) ∧ HP w w' [] [] := by
 refine calls_of_W Try.func68 rfl Try.ntmps68 rfl rfl (HP.refl w []) ?_
 refine sr ?_
 refine oas ?_
 refine nx ?_
 refine omv ?_
 refine ov (v2 V_geq) ?_
 refine omv ?_
 refine WL.splitD rfl (fun g1 => ?_) (fun g1 => ?_)
 · refine oy rfl (decide_eq_true g1) ?_
   refine omv ?_
   refine oy rfl (decide_eq_true g1) ?_
   refine ov (v2 V_leq) ?_
   refine ov (V_pick_td rfl g1 rfl) ?_
   refine oas ?_
   refine nq ?_
   refine W.ret ?_
   refine WQ.ret1 Try.results68 (.tmp rfl) ?_
   intro w' hp; exact ⟨by simp [tmB, *], hp.forget⟩
 · refine on rfl (decide_eq_false g1) ?_
   refine on rfl (decide_eq_false g1) ?_
   refine ov (V_pick_fd rfl g1 rfl) ?_
   refine oas ?_
   refine nq ?_
   refine W.ret ?_
   refine WQ.ret1 Try.results68 (.tmp rfl) ?_
   intro w' hp; exact ⟨by simp [tmB, *], hp.forget⟩

theorem rat23_calls (b j : Nat) (o : Gr) (S : LS) (ho : GrOK o S.m.length) (hlen : S.m.length ≤ 1000000) (id : Int) (w : World) (hp0 : HP w w (((b, .cells [(1, [.pointer (some ⟨j, 0, none⟩)]), (1, [.slice (gA o) S.m.length (gC o)])] 135) :: rL o S : List (Nat × Blk)).map (·.1)) ((b, .cells [(1, [.pointer (some ⟨j, 0, none⟩)]), (1, [.slice (gA o) S.m.length (gC o)])] 135) :: rL o S : List (Nat × Blk))) :
    Calls Try.prog 69 [.pointer (some ⟨b, 0, none⟩), .int .i64 id].toArray w fun e w' => e = .returned (.int .i64 (atI S.m id)) ∧ HP w w' (((b, .cells [(1, [.pointer (some ⟨j, 0, none⟩)]), (1, [.slice (gA o) S.m.length (gC o)])] 135) :: rL o S : List (Nat × Blk)).map (·.1)) ((b, .cells [(1, [.pointer (some ⟨j, 0, none⟩)]), (1, [.slice (gA o) S.m.length (gC o)])] 135) :: rL o S : List (Nat × Blk)) := by
 refine calls_of_W Try.func69 rfl Try.ntmps69 rfl rfl hp0 ?_
 refine sr ?_
 refine oas ?_
 refine nq ?_
 refine W.seq ?_
 refine sr ?_
 refine oas ?_
 refine nq ?_
 refine W.block ?_
 -- LOOP 0
 refine W.pick (S' := [(5, _), (0, _), (1, _), (4, _)]) [5, 0, 1, 4] rfl ?_
 refine W.loopG (σ := Nat) (fun i => i ≤ S.m.length ∧ ∀ k e', k < i → S.m[k]? = some e' → e'.1 ≠ id) (fun i => [(5, .int .i64 (i : Nat))]) (fun i => []) [(b, _)] (fun i => rL o S) (fun i => S.m.length - i) 0 rfl cov ⟨Nat.zero_le _, fun k e' hk => by omega⟩ ?_
 rintro i ⟨hi, hne⟩; dsimp only at hi hne ⊢
 refine W.seq ?_
 refine sr ?_
 refine omv ?_
 refine omv ?_
 refine ov vnil ?_
 refine ov (vfa0 1 1) ?_
 refine ov vld ?_
 refine ov vlenS ?_
 refine ov (v2 V_lss) ?_
 refine nq ?_
 refine W.cond_dec rfl (fun g1 => ?_) (fun g1 => ?_)
 · refine W.skip ?_
   refine WQ.then ?_
   refine W.seq ?_
   refine W.block ?_
   refine W.seq ?_
   obtain ⟨gb, gc, grs, hgo, hgc⟩ := GrOK.open ho (by omega)
   obtain ⟨e, he⟩ : ∃ e, S.m[i]? = some e := ⟨_, List.getElem?_eq_getElem (by omega)⟩
   refine W.region ?_
   refine omv ?_
   refine ov vnil ?_
   refine ov (vfa0 1 1) ?_
   refine ov vld ?_
   refine omv ?_
   refine ov (viRM 4 hgo) ?_
   refine ov (vfa 0 1) ?_
   refine ov (vldRM i 0 hgo ho he) ?_
   refine omv ?_
   refine ov (v2 V_eql) ?_
   refine nq ?_
   refine W.cond_dec rfl (fun g2 => ?_) (fun g2 => ?_)
   · refine W.seq ?_
     refine W.region ?_
     refine omv ?_
     refine oas ?_
     refine nq ?_
     refine W.ret ?_
     refine WQ.block_ret ?_
     refine WQ.then_ret ?_
     refine WQ.then_ret ?_
     refine WQ.block_ret ?_
     refine WQ.then_ret ?_
     refine WQ.ret1 Try.results69 (.tmp rfl) ?_
     intro w' hp; exact ⟨by unfold atI; rw [kidx_at hne he (by assumption)]; rfl, hp.cov cov⟩
   · refine W.skip ?_
     refine WQ.block_normal ?_
     refine WQ.then ?_
     refine W.region ?_
     refine omv ?_
     first | refine ov vaddN ?_ | refine ov vadd ?_
     refine oas ?_
     refine WL.nil ?_
     exact ag (i + 1) [5, 0, 1, 4] (by (try dsimp only); exact ⟨by omega, fun k e' hk h' => by
       by_cases e2 : k = i
       · subst e2; rw [he] at h'; cases h'; assumption
       · exact hne k e' (by omega) h'⟩) (by (try dsimp only); omega) rfl cov
 · refine W.exit ?_
   refine WQ.then_exit ?_
   refine WQ.then_exit ?_
   refine WQ.block_hit ?_
   refine WQ.then ?_
   refine sr ?_
   refine oas ?_
   refine nq ?_
   refine W.ret ?_
   refine WQ.ret1 Try.results69 (.tmp rfl) ?_
   intro w' hp; obtain rfl : i = S.m.length := by omega
   exact ⟨by unfold atI; rw [kidx_end hne]; rfl, hp.cov cov⟩

end Go.Proofs.Ytnpnnafcdnefiaa