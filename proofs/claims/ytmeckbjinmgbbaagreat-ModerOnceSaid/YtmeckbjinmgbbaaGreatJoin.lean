/- octets: rows joined. -/
import Derived.Test.YtmeckbjinmgbbaaGreatOct2
set_option linter.unusedVariables false
set_option linter.unusedSimpArgs false

namespace Go.Proofs.YtmeckbjinmgbbaaGreat
open Go.X
/-- A slice of slices of bytes. -/
def RowOf (w : World) (v : Value) (l : List Int) : Prop := ∃ B n cap, v = .slice B n cap ∧ n ≤ cap ∧ SrW w 1 B n (iv .u8 l) ∧ bytes l
def RowsL (w : World) : List Value → List (List Int) → Prop
  | [], [] => True
  | v :: vs, l :: ll => RowOf w v l ∧ RowsL w vs ll
  | _, _ => False
def Rows (w : World) (A : Option Addr) (n : Nat) (ll : List (List Int)) : Prop := n ≤ 9223372036854775807 ∧ ∃ vs, SrW w 1 A n vs ∧ RowsL w vs ll
theorem SrW.ilen {w : World} {A : Option Addr} {n : Nat} {k : IntKind} {l : List Int} (h : SrW w 1 A n (iv k l)) : n = l.length := by have := h.1; rw [iv_len] at this; omega
theorem RowsL.len {w : World} : ∀ {vs : List Value} {ll : List (List Int)}, RowsL w vs ll → vs.length = ll.length
  | [], [], _ => rfl
  | _ :: _, _ :: _, h => by simp [RowsL.len h.2]
  | [], _ :: _, h => h.elim
  | _ :: _, [], h => h.elim
theorem RowsL.get {w : World} : ∀ {vs : List Value} {ll : List (List Int)} {i : Nat} {l : List Int}, RowsL w vs ll → ll[i]? = some l → ∃ v, vs[i]? = some v ∧ RowOf w v l
  | v :: vs, l :: ll, 0, m, h, e => by simp at e; subst e; exact ⟨v, rfl, h.1⟩
  | v :: vs, l :: ll, i + 1, m, h, e => by simpa using RowsL.get (i := i) h.2 (by simpa using e)
  | [], _ :: _, _, _, h, _ => h.elim
  | [], [], _, _, _, e => by simp at e
  | _ :: _, [], _, _, h, _ => h.elim
theorem Rows.open {w : World} {A : Option Addr} {n : Nat} {ll : List (List Int)} (h : Rows w A n ll) : ll.length = n ∧ n ≤ 9223372036854775807 ∧ ∃ vs, SrW w 1 A n vs ∧ ∀ (i : Nat) l, ll[i]? = some l → ∃ v, vs[i]? = some v ∧ RowOf w v l := by
  obtain ⟨h1, vs, h2, h3⟩ := h
  exact ⟨by rw [← h3.len]; have := h2.1; omega, h1, vs, h2, fun i l e => h3.get e⟩
theorem RowOf.step {w w' : World} {L : List (Nat × Blk)} {v : Value} {l : List Int} (h : RowOf w v l) (hp : HP w w' [] L) : RowOf w' v l := by
  obtain ⟨B, n, cap, h1, h2, h3, h4⟩ := h
  exact ⟨B, n, cap, h1, h2, h3.step hp (by simp), h4⟩
theorem RowsL.step {w w' : World} {L : List (Nat × Blk)} (hp : HP w w' [] L) : ∀ {vs : List Value} {ll : List (List Int)}, RowsL w vs ll → RowsL w' vs ll
  | [], [], _ => trivial
  | _ :: _, _ :: _, h => ⟨h.1.step hp, RowsL.step hp h.2⟩
  | [], _ :: _, h => h.elim
  | _ :: _, [], h => h.elim
theorem Rows.step {w w' : World} {L : List (Nat × Blk)} {A : Option Addr} {n : Nat} {ll : List (List Int)} (h : Rows w A n ll) (hp : HP w w' [] L) : Rows w' A n ll := by
  obtain ⟨h1, vs, h2, h3⟩ := h
  exact ⟨h1, vs, h2.step hp (by simp), h3.step hp⟩
theorem rws {w : World} {A : Option Addr} {n : Nat} {ll : List (List Int)} (h : Rows w A n ll := by first | assumption | exact Rows.step (by assumption) (by assumption)) : Rows w A n ll := h
/-- Rows of the walk's own. -/
theorem rwo {w : World} {v : Value} {l : List Int} {B : Option Addr} {n cap : Nat} (h1 : v = .slice B n cap := by rfl) (h3 : SrW w 1 B n (iv .u8 l) := by exact sw) (h2 : n ≤ cap := by first | exact Nat.le_refl _ | exact sc) (h4 : bytes l := by exact sc) : RowOf w v l := ⟨B, n, cap, h1, h2, h3, h4⟩
theorem rw3 {w : World} {A : Option Addr} {v1 v2 v3 : Value} {l1 l2 l3 : List Int} (h : SrW w 1 A 3 [v1, v2, v3] := by exact sw) (h1 : RowOf w v1 l1 := by exact rwo) (h2 : RowOf w v2 l2 := by exact rwo) (h3 : RowOf w v3 l3 := by exact rwo) : Rows w A 3 [l1, l2, l3] := ⟨by decide, _, h, h1, h2, h3, trivial⟩
theorem rw5 {w : World} {A : Option Addr} {v1 v2 v3 v4 v5 : Value} {l1 l2 l3 l4 l5 : List Int} (h : SrW w 1 A 5 [v1, v2, v3, v4, v5] := by exact sw) (h1 : RowOf w v1 l1 := by exact rwo) (h2 : RowOf w v2 l2 := by exact rwo) (h3 : RowOf w v3 l3 := by exact rwo) (h4 : RowOf w v4 l4 := by exact rwo) (h5 : RowOf w v5 l5 := by exact rwo) : Rows w A 5 [l1, l2, l3, l4, l5] := ⟨by decide, _, h, h1, h2, h3, h4, h5, trivial⟩
def joinF (ll : List (List Int)) : List Int := ll.flatMap fun l => highF l.length 4 ++ l
theorem joinF_app (a b : List (List Int)) : joinF (a ++ b) = joinF a ++ joinF b := by simp [joinF]
theorem joinF_bytes {ll : List (List Int)} (h : ∀ l ∈ ll, bytes l) : bytes (joinF ll) := fun c hc => by
  obtain ⟨l, hl, hcl⟩ := List.mem_flatMap.1 hc
  exact (highF_bytes.app (h l hl)) c hcl
theorem take_some {α : Type} {l : List α} {i : Nat} {x : α} (h : l[i]? = some x) : l.take (i + 1) = l.take i ++ [x] := by
  obtain ⟨hi, e⟩ := List.getElem?_eq_some_iff.1 h
  rw [List.take_succ_eq_append_getElem hi, e]
theorem joinStep {ll : List (List Int)} {i : Nat} {l : List Int} (h : ll[i]? = some l) : joinF (ll.take i) ++ highF (l.length : Int) 4 ++ l = joinF (ll.take (i + 1)) := by
  rw [take_some h, joinF_app, List.append_assoc]; simp [joinF]
theorem joinLen {ll : List (List Int)} {i : Nat} {l : List Int} (h : ll[i]? = some l) : (joinF (ll.take (i + 1))).length = (joinF (ll.take i)).length + 4 + l.length := by
  rw [← joinStep h]; simp; omega
theorem joinLe (ll : List (List Int)) (i : Nat) : (joinF (ll.take i)).length ≤ (joinF ll).length := by
  conv => rhs; rw [← List.take_append_drop i ll, joinF_app]
  simp
theorem rowLe {ll : List (List Int)} {i : Nat} {l : List Int} (h : ll[i]? = some l) : (joinF (ll.take i)).length + 4 + l.length ≤ (joinF ll).length := by
  rw [← joinLen h]; exact joinLe _ _
theorem exrow {ll : List (List Int)} {i n : Nat} (h : ll.length = n) (hi : (i : Int) < n) : ∃ l, ll[i]? = some l := ⟨_, List.getElem?_eq_getElem (by omega)⟩

theorem join_calls (A : Option Addr) (n cap : Nat) (ll : List (List Int)) (w : World) (hr : Rows w A n ll) (hj : (joinF ll).length ≤ 4000000) :
    Calls Tryz.prog 130 [.slice A n cap].toArray w fun e w' => ∃ o : Gr, GrOK o (joinF ll).length ∧ e = .returned (.slice (gA o) (joinF ll).length (gC o)) ∧ HP w w' [] (gL o (joinF ll).length (iv .u8 (joinF ll)) 5) := by
 obtain ⟨hlen, hn, vs, hvs, hrow⟩ := hr.open
 refine calls_of_W Tryz.func130 rfl Tryz.ntmps130 rfl rfl (HP.refl w []) ?_
 refine sr ?_
 refine oas ?_
 refine nx ?_
 refine oas ?_
 refine nq ?_
 refine W.seq ?_
 refine sr ?_
 refine omv ?_
 refine ov vlenS ?_
 refine omv ?_
 refine nq ?_
 refine W.block ?_
 -- LOOP 0
 refine W.pick (S' := [(3, _), (8, _), (0, _), (2, _), (6, _), (7, _)]) [3, 8, 0, 2, 6, 7] rfl ?_
 refine W.loopG (σ := Nat × Gr × Nat) (fun ⟨i, o, m⟩ => i ≤ n ∧ GrOK o m ∧ (joinF (ll.take i)).length = m) (fun ⟨i, o, m⟩ => [(3, .slice (gA o) m (gC o)), (8, .int .i64 (i : Nat))]) (fun ⟨i, o, m⟩ => []) [] (fun ⟨i, o, m⟩ => gL o m (iv .u8 (joinF (ll.take i))) 5) (fun ⟨i, o, m⟩ => n - i) (0, none, 0) rfl cov ⟨Nat.zero_le _, rfl, rfl⟩ ?_
 rintro ⟨i, o, m⟩ ⟨hi, ho, hm⟩; dsimp only at hi ho hm ⊢
 refine sr ?_
 refine ov (v2 V_lss) ?_
 refine nq ?_
 refine W.seq ?_
 refine W.cond_dec rfl (fun g1 => ?_) (fun g1 => ?_)
 · refine W.skip ?_
   refine WQ.then ?_
   refine W.seq ?_
   refine W.block ?_
   refine sr ?_
   obtain ⟨bbA, ooA, rfl⟩ := hvs.hasN sc
   obtain ⟨l, hl⟩ := exrow hlen (i := i) (by omega)
   obtain ⟨v, hv, B, q, bc, rfl, hbc, hsb, hbb⟩ := hrow i l hl
   obtain rfl := SrW.ilen hsb
   have hle := rowLe hl
   first | refine ov viS1 ?_ | refine ov viS1Z ?_
   refine ov (vldV _) ?_
   refine oas ?_
   refine nx ?_
   refine omv ?_
   refine omv ?_
   refine ov vlenS ?_
   first | refine ov (vcvN .u64) ?_ | refine ov (vcv .u64) ?_
   refine cg rfl (fun w hp => high_calls _ 4 w sc) (fun b16 h16 => ?_)
   refine oapG 5 1 (fun o17 h17 p17 => ?_)
   refine oas ?_
   refine nq ?_
   refine W.region ?_
   refine omv ?_
   refine omv ?_
   refine oapG 5 1 (fun o20 h20 p20 => ?_)
   refine oas ?_
   refine WL.nil ?_
   refine WQ.block_normal ?_
   refine WQ.then ?_
   refine W.region ?_
   first | refine ov vaddN ?_ | refine ov vadd ?_
   refine omv ?_
   refine WL.nil ?_
   rw [joinStep hl]
   exact ag (i + 1, o20, m + 4 + l.length) [3, 8, 0, 2, 6, 7] (by (try dsimp only); exact ⟨by omega, by assumption, by rw [joinLen hl, hm]⟩) (by show n - (i + 1) < n - i; omega) rfl cov
 · refine W.exit ?_
   refine WQ.then_exit ?_
   refine WQ.then_exit ?_
   refine WQ.block_hit ?_
   refine WQ.then ?_
   refine sr ?_
   refine omv ?_
   refine oas ?_
   refine nq ?_
   refine W.ret ?_
   refine WQ.ret1 Tryz.results130 (.tmp rfl) ?_
   intro w' hp; obtain rfl : i = n := by omega
   rw [show ll.take i = ll from List.take_of_length_le (by omega)] at hm hp
   subst hm; exact ⟨o, ho, rfl, hp.cov cov⟩

end Go.Proofs.YtmeckbjinmgbbaaGreat