/- Disks: the document's answer. -/
import Derived.Test.YtnpnnafcdnefiaaCrash
set_option linter.unusedVariables false
set_option linter.unusedSimpArgs false

namespace Go.Proofs.Ytnpnnafcdnefiaa
open Go.X
structure RS where
  n : Nat
  sure : List (List Int)
  new : List (List Int)
  iss : List Bool
  fuse : Int
  dead : Bool
structure RK where
  d : Nat
  s : Nat
  x : Nat
  i : Nat
/-- The program's disk, and the document's, are the same. -/
structure Rl (D : DS) (R : RS) : Prop where
  n : R.n = D.n
  sure : R.sure = D.sure
  fuse : R.fuse = D.fuse
  dead : R.dead = D.dead
  nlen : R.new.length = D.n
  news : ∀ s ∈ R.new, Sec s
  ilen : R.iss.length = D.n
  is_ : ∀ i, i < D.n → R.iss.getD i false = (pget D.m i).isSome
  new_ : ∀ (i : Nat) s, pget D.m i = some s → R.new.getD i [] = s
def newR (n : Nat) : RS := ⟨n, List.replicate n (List.replicate 64 0), List.replicate n (List.replicate 64 0), List.replicate n false, -1, false⟩
theorem newR_rl {n : Nat} : Rl (newD n) (newR n) :=
  ⟨rfl, rfl, rfl, rfl, by simp [newR, newD], fun s hs => by rw [List.eq_of_mem_replicate hs]; exact sec0, by simp [newR, newD], fun i hi => by
    have : i < n := hi
    show (List.replicate n false).getD i false = false
    simp [List.getD_eq_getElem?_getD, this], fun i s h => by cases h⟩
def burnR (R : RS) : RS := if R.dead = true ∨ R.fuse = 0 then { R with dead := true } else { R with fuse := max (R.fuse - 1) (-1) }
theorem burnR_t {R : RS} (h : R.dead = true ∨ R.fuse = 0) : burnR R = { R with dead := true } := if_pos h
theorem burnR_f {R : RS} (h : R.dead = false) (h2 : R.fuse ≠ 0) : burnR R = { R with fuse := max (R.fuse - 1) (-1) } := by
  have hn : ¬ (R.dead = true ∨ R.fuse = 0) := by rintro (e | e); rw [h] at e; cases e; exact h2 e
  exact if_neg hn
theorem burnR_rl {D : DS} {R : RS} (h : Rl D R) : Rl (burnD D) (burnR R) := by
  obtain ⟨h1, h2, h3, h4, h5, h6, h7, h8, h9⟩ := h
  unfold burnD burnR
  rw [h3, h4]
  split
  · exact ⟨h1, h2, rfl, rfl, h5, h6, h7, h8, h9⟩
  · exact ⟨h1, h2, rfl, rfl, h5, h6, h7, h8, h9⟩
def putR (R : RS) (i : Nat) (s : List Int) : RS := { R with new := R.new.set i s, iss := R.iss.set i true }
theorem getD_set {α : Type} {l : List α} {i j : Nat} {x d : α} (hi : i < l.length) : (l.set i x).getD j d = if i = j then x else l.getD j d := by
  rw [List.getD_eq_getElem?_getD, List.getD_eq_getElem?_getD, List.getElem?_set]
  by_cases h : i = j
  · subst h; simp [hi]
  · simp [h]
theorem putR_rl {D : DS} {R : RS} (h : Rl D R) {i : Nat} {s : List Int} (hi : i < D.n) (hs : Sec s) : Rl (putD D i s) (putR R i s) := by
  obtain ⟨h1, h2, h3, h4, h5, h6, h7, h8, h9⟩ := h
  refine ⟨h1, h2, h3, h4, by simp [putR, putD, h5], fun x hx => ?_, by simp [putR, putD, h7], fun j hj => ?_, fun j x hx => ?_⟩
  · rcases List.mem_or_eq_of_mem_set hx with h | rfl
    · exact h6 x h
    · exact hs
  · show (R.iss.set i true).getD j false = (pget (pput D.m D.ck i s) j).isSome
    rw [getD_set (by omega), pget_put]
    by_cases e : i = j
    · subst e; simp
    · rw [if_neg e, if_neg (by omega)]; exact h8 j hj
  · show (R.new.set i s).getD j [] = x
    have hx' : pget (pput D.m D.ck i s) j = some x := hx
    rw [getD_set (by omega)]
    rw [pget_put] at hx'
    by_cases e : i = j
    · subst e; simp at hx'; simp [hx']
    · rw [if_neg e]; rw [if_neg (by omega)] at hx'; exact h9 j x hx'
theorem fuR_rl {D : DS} {R : RS} (h : Rl D R) {k : Int} : Rl (fuD D k) { R with fuse := max k (-1) } :=
  ⟨h.n, h.sure, rfl, h.dead, h.nlen, h.news, h.ilen, h.is_, h.new_⟩
theorem Rl.cur {D : DS} {R : RS} (h : Rl D R) {i : Nat} (hi : i < D.n) : (if R.iss.getD i false = true then R.new.getD i [] else R.sure.getD i []) = cur D i := by
  rw [h.is_ i hi, h.sure]
  unfold Go.Proofs.Ytnpnnafcdnefiaa.cur
  cases hq : pget D.m i with
  | none => rfl
  | some s => rw [if_pos (show (some s).isSome = true from rfl), h.new_ i s hq]; rfl
def pendR (R : RS) (n : Nat) : List Int := ((List.range n).filter fun i => R.iss.getD i false).map fun (i : Nat) => (i : Int)
theorem pendR_succ {R : RS} {n : Nat} : pendR R (n + 1) = if R.iss.getD n false = true then pendR R n ++ [(n : Int)] else pendR R n := by
  unfold pendR
  rw [List.range_succ, List.filter_append, List.map_append]
  by_cases h : R.iss.getD n false = true
  · rw [if_pos h, List.filter_cons_of_pos (p := fun i => R.iss.getD i false) h]; rfl
  · rw [if_neg h, List.filter_cons_of_neg (p := fun i => R.iss.getD i false) h]; simp
theorem pendR_eq {D : DS} {R : RS} (hok : DOK D) (h : Rl D R) : pendR R D.n = pend D := by
  have hnd : (pendR R D.n).Nodup := by
    unfold pendR
    rw [List.nodup_iff_pairwise_ne, List.pairwise_map]
    exact ((List.nodup_iff_pairwise_ne.1 List.nodup_range).filter _).imp fun hne e => hne (by omega)
  have hp : (pendR R D.n).Perm (D.m.map (·.1)) := by
    refine (List.perm_ext_iff_of_nodup hnd hok.keys).2 fun x => ?_
    constructor
    · intro hx
      obtain ⟨i, hi, rfl⟩ := List.mem_map.1 hx
      obtain ⟨h1, h2⟩ := List.mem_filter.1 hi
      rw [h.is_ i (List.mem_range.1 h1)] at h2
      obtain ⟨s, hs⟩ := Option.isSome_iff_exists.1 h2
      obtain ⟨n, hn⟩ := pget_mem hs
      exact List.mem_map.2 ⟨_, hn, rfl⟩
    · intro hx
      obtain ⟨e, he, rfl⟩ := List.mem_map.1 hx
      have hE := (hok.ents e he).1
      have hg := pget_in hok.keys he
      refine List.mem_map.2 ⟨e.1.toNat, List.mem_filter.2 ⟨List.mem_range.2 (by omega), ?_⟩, by omega⟩
      rw [h.is_ _ (by omega), Int.toNat_of_nonneg hE.1, hg]; rfl
  have tr : ∀ a b c : Int, decide (a ≤ b) = true → decide (b ≤ c) = true → decide (a ≤ c) = true := fun a b c h1 h2 => by simp only [decide_eq_true_eq] at *; omega
  have to : ∀ a b : Int, (decide (a ≤ b) || decide (b ≤ a)) = true := fun a b => by simp only [Bool.or_eq_true, decide_eq_true_eq]; omega
  refine List.Perm.eq_of_pairwise (le := fun a b : Int => decide (a ≤ b) = true) (fun a b _ _ h1 h2 => by simp only [decide_eq_true_eq] at h1 h2; omega) ?_ (List.pairwise_mergeSort tr to _) (hp.trans pend_perm.symm)
  unfold pendR
  rw [List.pairwise_map]
  have hlt : (List.range D.n).Pairwise (· < ·) := List.pairwise_lt_range
  exact (hlt.filter _).imp fun hh => by simp only [decide_eq_true_eq]; omega
section
variable {c : Cx} {Q : Post} {S : Slots} {L L' Lr Lx : List (Nat × Blk)} {ops : Array Oper} {t : Tmp} {ty T : TypeId} {pos : String} {af : Array Edge} {x y : Operand} {v : Value} {g : Option (Nat × Bool)} {i : Nat} {p : Plan}
theorem dmkSec {n s by' : Nat} {k k' k2 : IntKind} {q1 q2 : Int} {e : TypeId} (ho : ops[i]? = some ⟨some t, .makeSlice T x y, ty, pos, af, g⟩) (ht : slEs c.P T e s by' (.int k2 0)) (K : ∀ b, WD c ops Q Lr p ((t, .slice (some ⟨b, 0, none⟩) n n) :: S) ((b, .cells [(n * s, iv k2 (List.replicate n (List.replicate s 0)).flatten)] e) :: L)) (hg : Gd ops S g := by exact trivial) (h0 : 0 < s := by decide) (hx : ev S x = some (.int k q1) := by exact rfl) (hy : ev S y = some (.int k' q2) := by exact rfl)
    (hq1 : q1 = (n : Int) := by first | rfl | omega) (hq2 : q2 = (n : Int) := by first | rfl | omega) (hb : n * by' ≤ 281474976710656 := by omega) (hl : n ≤ 9223372036854775807 := by omega) (hd : Nat.blt t c.n = true := by exact rfl) (hs : Lr.Sublist L := by exact subl) : WO c ops Q Lr i p S L :=
  WO.effG ho hg (d := some t) hd hs (E_makeSec h0 ht hx hy hq1 hq2 hb hl) fun v M ⟨b, hv, hM⟩ => by subst hv; subst hM; exact ⟨fun q hq => List.mem_cons_of_mem _ (hs.subset hq), K b⟩
theorem dmkB {n : Nat} {k1 k2 : IntKind} {q1 q2 : Int} (ho : ops[i]? = some ⟨some t, .makeSlice T x y, ty, pos, af, g⟩) (e by' : Nat) (K : ∀ b, WD c ops Q Lr p ((t, .slice (some ⟨b, 0, none⟩) n n) :: S) ((b, .cells [(n, bv (List.replicate n false)), (n - n, [])] e) :: L)) (hg : Gd ops S g := by exact trivial)
    (hx : ev S x = some (.int k1 q1) := by exact rfl) (hy : ev S y = some (.int k2 q2) := by exact rfl) (hp : q1 = (n : Int) := by first | rfl | omega) (hq : q2 = (n : Int) := by first | rfl | omega) (ht : slE c.P T e by' = true := by kernel_rfl) (hz : zeroIs c.P e [(1, [.bool false])] := by exact zi) (hb : n * by' ≤ 281474976710656 := by omega) (hl : n ≤ 9223372036854775807 := by omega) (hd : Nat.blt t c.n = true := by exact rfl) (hs : Lr.Sublist L := by exact subl) : WO c ops Q Lr i p S L := by
  subst hp; subst hq
  refine WO.effG ho hg (d := some t) hd hs (E_make e by' (.bool false) ht hz hx hy hb hl) fun v M ⟨b, hv, hM⟩ => ?_
  subst hv; subst hM; rw [← bv_rep]; exact ⟨fun q hq => List.mem_cons_of_mem _ (hs.subset hq), K b⟩
end
theorem slSecR : slEs Try.prog 128 72 64 64 (.int .u8 0) := by
  refine ⟨by kernel_rfl, ?_⟩
  obtain ⟨i, hi⟩ : ∃ i, Try.prog.info? 72 = some i := Option.isSome_iff_exists.1 (by kernel_rfl)
  obtain ⟨z, hz⟩ : ∃ z, i.zero = some z := Option.isSome_iff_exists.1 (by have : ((Try.prog.info? 72).bind (·.zero)).isSome = true := by kernel_rfl
                                                                          rw [hi] at this; exact this)
  have e1 : (Try.prog.info? 72).map (·.size) = some 64 := by kernel_rfl
  have e2 : (Try.prog.info? 72).map (·.bytes) = some 64 := by kernel_rfl
  have e3 : ((Try.prog.info? 72).bind (·.zero)).map (·.cells) = some (Array.replicate 64 (.int .u8 0)) := by kernel_rfl
  rw [hi] at e1 e2 e3
  simp only [Option.bind_some, hz, Option.map_some, Option.some.injEq] at e1 e2 e3
  exact ⟨i, z, hi, e1, e2, hz, e3⟩

theorem rnew21_calls (n : Nat) (h1 : 1 ≤ n) (h2 : n ≤ 64) (w : World) :
    Calls Try.prog 35 [.int .i64 (n : Int)].toArray w fun e w' => ∃ r : RK, True ∧ e = .returned (.tuple #[.pointer (some ⟨r.d, 0, none⟩), .int .i64 0]) ∧ HP w w' [] [(r.d, .cells [(1, [.slice (some ⟨r.s, 0, none⟩) (newR n).n (newR n).n]), (1, [.slice (some ⟨r.x, 0, none⟩) (newR n).n (newR n).n]), (1, [.slice (some ⟨r.i, 0, none⟩) (newR n).n (newR n).n]), (1, [.int .i64 (newR n).fuse]), (1, [.bool (newR n).dead])] 130), (r.s, .cells [((newR n).n * 64, iv .u8 (newR n).sure.flatten)] 72), (r.x, .cells [((newR n).n * 64, iv .u8 (newR n).new.flatten)] 72), (r.i, .cells [((newR n).n, bv (newR n).iss), ((newR n).n - (newR n).n, [])] 4)] := by
 refine calls_of_W Try.func35 rfl Try.ntmps35 rfl rfl (HP.refl w []) ?_
 refine sr ?_
 refine oas ?_
 refine oas ?_
 refine nq ?_
 refine W.seq ?_
 refine sr ?_
 refine omv ?_
 refine ov (v2 V_lss) ?_
 refine omv ?_
 refine oy rfl (decide_eq_false (by omega)) ?_
 refine omv ?_
 refine oy rfl (decide_eq_false (by omega)) ?_
 refine ov (v2 V_gtr) ?_
 refine ov (V_pick_f rfl (decide_eq_false (by omega)) rfl) ?_
 refine nq ?_
 refine W.cond_false rfl (decide_eq_false (by omega)) ?_
 refine W.skip ?_
 refine WQ.then ?_
 refine W.seq ?_
 refine dr (.q 0 (.q 2 (.q 4 (.l3 1 (.l2 3 (.l 5 (.q 6 (.l 7 (.q 8 (.q 9 (.done)))))) 5 (.l 3 (.q 6 (.l 7 (.q 8 (.q 9 (.done))))))) 3 (.l2 1 (.l 5 (.q 6 (.l 7 (.q 8 (.q 9 (.done)))))) 5 (.l 1 (.q 6 (.l 7 (.q 8 (.q 9 (.done))))))) 5 (.l2 1 (.l 3 (.q 6 (.l 7 (.q 8 (.q 9 (.done)))))) 3 (.l 1 (.q 6 (.l 7 (.q 8 (.q 9 (.done))))))))))) [] ?_
 refine dq rfl (V_move rfl) ?_
 refine dq rfl (V_move rfl) ?_
 refine dq rfl (V_move rfl) ?_
 refine WD.l3 ?_ ?_ ?_
 · refine dmkSec rfl slSecR (fun b11 => ?_)
   refine WD.l2 ?_ ?_
   · refine dmkSec rfl slSecR (fun b13 => ?_)
     refine WD.l ?_
     refine dmkB rfl 4 1 (fun b15 => ?_)
     refine dq rfl (V_build (by kernel_rfl) (zi (zs := [(1, [.slice none 0 0]), (1, [.slice none 0 0]), (1, [.slice none 0 0]), (1, [.int .i64 0]), (1, [.bool false])])) (.one (k := 0) rfl rfl (by kernel_rfl) rfl (.one (k := 1) rfl rfl (by kernel_rfl) rfl (.one (k := 2) rfl rfl (by kernel_rfl) rfl (.one (k := 3) rfl rfl (by kernel_rfl) rfl (.nil _)))))) ?_
     refine WD.l ?_
     refine dbxa rfl (fun b17 => ?_)
     refine dq rfl (V_assign rfl) ?_
     refine dq rfl (V_assign rfl) ?_
     refine WD.done ?_
     refine WQ.then ?_
     refine W.ret ?_
     refine WQ.ret2 Try.results35 (.tmp rfl) (.tmp rfl) ?_
     intro w' hp; exact ⟨⟨b17, b11, b13, b15⟩, trivial, rfl, hp.cov cov⟩
   · refine dmkB rfl 4 1 (fun b15 => ?_)
     refine WD.l ?_
     refine dmkSec rfl slSecR (fun b13 => ?_)
     refine dq rfl (V_build (by kernel_rfl) (zi (zs := [(1, [.slice none 0 0]), (1, [.slice none 0 0]), (1, [.slice none 0 0]), (1, [.int .i64 0]), (1, [.bool false])])) (.one (k := 0) rfl rfl (by kernel_rfl) rfl (.one (k := 1) rfl rfl (by kernel_rfl) rfl (.one (k := 2) rfl rfl (by kernel_rfl) rfl (.one (k := 3) rfl rfl (by kernel_rfl) rfl (.nil _)))))) ?_
     refine WD.l ?_
     refine dbxa rfl (fun b17 => ?_)
     refine dq rfl (V_assign rfl) ?_
     refine dq rfl (V_assign rfl) ?_
     refine WD.done ?_
     refine WQ.then ?_
     refine W.ret ?_
     refine WQ.ret2 Try.results35 (.tmp rfl) (.tmp rfl) ?_
     intro w' hp; exact ⟨⟨b17, b11, b13, b15⟩, trivial, rfl, hp.cov cov⟩
 · refine dmkSec rfl slSecR (fun b13 => ?_)
   refine WD.l2 ?_ ?_
   · refine dmkSec rfl slSecR (fun b11 => ?_)
     refine WD.l ?_
     refine dmkB rfl 4 1 (fun b15 => ?_)
     refine dq rfl (V_build (by kernel_rfl) (zi (zs := [(1, [.slice none 0 0]), (1, [.slice none 0 0]), (1, [.slice none 0 0]), (1, [.int .i64 0]), (1, [.bool false])])) (.one (k := 0) rfl rfl (by kernel_rfl) rfl (.one (k := 1) rfl rfl (by kernel_rfl) rfl (.one (k := 2) rfl rfl (by kernel_rfl) rfl (.one (k := 3) rfl rfl (by kernel_rfl) rfl (.nil _)))))) ?_
     refine WD.l ?_
     refine dbxa rfl (fun b17 => ?_)
     refine dq rfl (V_assign rfl) ?_
     refine dq rfl (V_assign rfl) ?_
     refine WD.done ?_
     refine WQ.then ?_
     refine W.ret ?_
     refine WQ.ret2 Try.results35 (.tmp rfl) (.tmp rfl) ?_
     intro w' hp; exact ⟨⟨b17, b11, b13, b15⟩, trivial, rfl, hp.cov cov⟩
   · refine dmkB rfl 4 1 (fun b15 => ?_)
     refine WD.l ?_
     refine dmkSec rfl slSecR (fun b11 => ?_)
     refine dq rfl (V_build (by kernel_rfl) (zi (zs := [(1, [.slice none 0 0]), (1, [.slice none 0 0]), (1, [.slice none 0 0]), (1, [.int .i64 0]), (1, [.bool false])])) (.one (k := 0) rfl rfl (by kernel_rfl) rfl (.one (k := 1) rfl rfl (by kernel_rfl) rfl (.one (k := 2) rfl rfl (by kernel_rfl) rfl (.one (k := 3) rfl rfl (by kernel_rfl) rfl (.nil _)))))) ?_
     refine WD.l ?_
     refine dbxa rfl (fun b17 => ?_)
     refine dq rfl (V_assign rfl) ?_
     refine dq rfl (V_assign rfl) ?_
     refine WD.done ?_
     refine WQ.then ?_
     refine W.ret ?_
     refine WQ.ret2 Try.results35 (.tmp rfl) (.tmp rfl) ?_
     intro w' hp; exact ⟨⟨b17, b11, b13, b15⟩, trivial, rfl, hp.cov cov⟩
 · refine dmkB rfl 4 1 (fun b15 => ?_)
   refine WD.l2 ?_ ?_
   · refine dmkSec rfl slSecR (fun b11 => ?_)
     refine WD.l ?_
     refine dmkSec rfl slSecR (fun b13 => ?_)
     refine dq rfl (V_build (by kernel_rfl) (zi (zs := [(1, [.slice none 0 0]), (1, [.slice none 0 0]), (1, [.slice none 0 0]), (1, [.int .i64 0]), (1, [.bool false])])) (.one (k := 0) rfl rfl (by kernel_rfl) rfl (.one (k := 1) rfl rfl (by kernel_rfl) rfl (.one (k := 2) rfl rfl (by kernel_rfl) rfl (.one (k := 3) rfl rfl (by kernel_rfl) rfl (.nil _)))))) ?_
     refine WD.l ?_
     refine dbxa rfl (fun b17 => ?_)
     refine dq rfl (V_assign rfl) ?_
     refine dq rfl (V_assign rfl) ?_
     refine WD.done ?_
     refine WQ.then ?_
     refine W.ret ?_
     refine WQ.ret2 Try.results35 (.tmp rfl) (.tmp rfl) ?_
     intro w' hp; exact ⟨⟨b17, b11, b13, b15⟩, trivial, rfl, hp.cov cov⟩
   · refine dmkSec rfl slSecR (fun b13 => ?_)
     refine WD.l ?_
     refine dmkSec rfl slSecR (fun b11 => ?_)
     refine dq rfl (V_build (by kernel_rfl) (zi (zs := [(1, [.slice none 0 0]), (1, [.slice none 0 0]), (1, [.slice none 0 0]), (1, [.int .i64 0]), (1, [.bool false])])) (.one (k := 0) rfl rfl (by kernel_rfl) rfl (.one (k := 1) rfl rfl (by kernel_rfl) rfl (.one (k := 2) rfl rfl (by kernel_rfl) rfl (.one (k := 3) rfl rfl (by kernel_rfl) rfl (.nil _)))))) ?_
     refine WD.l ?_
     refine dbxa rfl (fun b17 => ?_)
     refine dq rfl (V_assign rfl) ?_
     refine dq rfl (V_assign rfl) ?_
     refine WD.done ?_
     refine WQ.then ?_
     refine W.ret ?_
     refine WQ.ret2 Try.results35 (.tmp rfl) (.tmp rfl) ?_
     intro w' hp; exact ⟨⟨b17, b11, b13, b15⟩, trivial, rfl, hp.cov cov⟩

theorem rnew21_bad (q : Int) (h : ¬ (1 ≤ q ∧ q ≤ 64)) (w : World) :
    Calls Try.prog 35 [.int .i64 q].toArray w fun e w' => e = .returned (.tuple #[.pointer none, .int .i64 1]) ∧ HP w w' [] [] := by
 refine calls_of_W Try.func35 rfl Try.ntmps35 rfl rfl (HP.refl w []) ?_
 refine sr ?_
 refine oas ?_
 refine oas ?_
 refine nq ?_
 refine W.seq ?_
 refine sr ?_
 refine omv ?_
 refine ov (v2 V_lss) ?_
 refine omv ?_
 refine WL.splitD rfl (fun g1 => ?_) (fun g1 => ?_)
 · refine on rfl (decide_eq_true g1) ?_
   refine on rfl (decide_eq_true g1) ?_
   refine ov (V_pick_td rfl g1 rfl) ?_
   refine nq ?_
   refine W.cond_true rfl rfl ?_
   refine sr ?_
   refine oas ?_
   refine oas ?_
   refine nq ?_
   refine W.ret ?_
   refine WQ.then_ret ?_
   refine WQ.ret2 Try.results35 (.tmp rfl) (.tmp rfl) ?_
   intro w' hp; exact ⟨rfl, hp.forget⟩
 · refine oy rfl (decide_eq_false g1) ?_
   refine omv ?_
   refine oy rfl (decide_eq_false g1) ?_
   refine ov (v2 V_gtr) ?_
   refine ov (V_pick_fd rfl g1 rfl) ?_
   refine nq ?_
   refine W.cond_dec rfl (fun g2 => ?_) (fun g2 => ?_)
   · refine W.seq ?_
     refine W.region ?_
     refine oas ?_
     refine oas ?_
     refine nq ?_
     refine W.ret ?_
     refine WQ.then_ret ?_
     refine WQ.ret2 Try.results35 (.tmp rfl) (.tmp rfl) ?_
     intro w' hp; exact ⟨rfl, hp.forget⟩
   · refine W.skip ?_
     refine WQ.then ?_
     refine W.seq ?_
     refine dr (.q 0 (.q 2 (.q 4 (.l3 1 (.l2 3 (.l 5 (.q 6 (.l 7 (.q 8 (.q 9 (.done)))))) 5 (.l 3 (.q 6 (.l 7 (.q 8 (.q 9 (.done))))))) 3 (.l2 1 (.l 5 (.q 6 (.l 7 (.q 8 (.q 9 (.done)))))) 5 (.l 1 (.q 6 (.l 7 (.q 8 (.q 9 (.done))))))) 5 (.l2 1 (.l 3 (.q 6 (.l 7 (.q 8 (.q 9 (.done)))))) 3 (.l 1 (.q 6 (.l 7 (.q 8 (.q 9 (.done))))))))))) [] ?_
     refine dq rfl (V_move rfl) ?_
     refine dq rfl (V_move rfl) ?_
     refine dq rfl (V_move rfl) ?_
     refine WD.l3 ?_ ?_ ?_
     · refine dmkSec (n := q.toNat) rfl slSecR (fun b11 => ?_)
       refine WD.l2 ?_ ?_
       · refine dmkSec (n := q.toNat) rfl slSecR (fun b13 => ?_)
         refine WD.l ?_
         refine dmkB (n := q.toNat) rfl 4 1 (fun b15 => ?_)
         refine dq rfl (V_build (by kernel_rfl) (zi (zs := [(1, [.slice none 0 0]), (1, [.slice none 0 0]), (1, [.slice none 0 0]), (1, [.int .i64 0]), (1, [.bool false])])) (.one (k := 0) rfl rfl (by kernel_rfl) rfl (.one (k := 1) rfl rfl (by kernel_rfl) rfl (.one (k := 2) rfl rfl (by kernel_rfl) rfl (.one (k := 3) rfl rfl (by kernel_rfl) rfl (.nil _)))))) ?_
         refine WD.l ?_
         refine dbxa rfl (fun b17 => ?_)
         refine dq rfl (V_assign rfl) ?_
         refine dq rfl (V_assign rfl) ?_
         refine WD.done ?_
         refine WQ.then ?_
         refine W.ret ?_
         refine WQ.ret2 Try.results35 (.tmp rfl) (.tmp rfl) ?_
         intro w' hp; exfalso; omega
       · refine dmkB (n := q.toNat) rfl 4 1 (fun b15 => ?_)
         refine WD.l ?_
         refine dmkSec (n := q.toNat) rfl slSecR (fun b13 => ?_)
         refine dq rfl (V_build (by kernel_rfl) (zi (zs := [(1, [.slice none 0 0]), (1, [.slice none 0 0]), (1, [.slice none 0 0]), (1, [.int .i64 0]), (1, [.bool false])])) (.one (k := 0) rfl rfl (by kernel_rfl) rfl (.one (k := 1) rfl rfl (by kernel_rfl) rfl (.one (k := 2) rfl rfl (by kernel_rfl) rfl (.one (k := 3) rfl rfl (by kernel_rfl) rfl (.nil _)))))) ?_
         refine WD.l ?_
         refine dbxa rfl (fun b17 => ?_)
         refine dq rfl (V_assign rfl) ?_
         refine dq rfl (V_assign rfl) ?_
         refine WD.done ?_
         refine WQ.then ?_
         refine W.ret ?_
         refine WQ.ret2 Try.results35 (.tmp rfl) (.tmp rfl) ?_
         intro w' hp; exfalso; omega
     · refine dmkSec (n := q.toNat) rfl slSecR (fun b13 => ?_)
       refine WD.l2 ?_ ?_
       · refine dmkSec (n := q.toNat) rfl slSecR (fun b11 => ?_)
         refine WD.l ?_
         refine dmkB (n := q.toNat) rfl 4 1 (fun b15 => ?_)
         refine dq rfl (V_build (by kernel_rfl) (zi (zs := [(1, [.slice none 0 0]), (1, [.slice none 0 0]), (1, [.slice none 0 0]), (1, [.int .i64 0]), (1, [.bool false])])) (.one (k := 0) rfl rfl (by kernel_rfl) rfl (.one (k := 1) rfl rfl (by kernel_rfl) rfl (.one (k := 2) rfl rfl (by kernel_rfl) rfl (.one (k := 3) rfl rfl (by kernel_rfl) rfl (.nil _)))))) ?_
         refine WD.l ?_
         refine dbxa rfl (fun b17 => ?_)
         refine dq rfl (V_assign rfl) ?_
         refine dq rfl (V_assign rfl) ?_
         refine WD.done ?_
         refine WQ.then ?_
         refine W.ret ?_
         refine WQ.ret2 Try.results35 (.tmp rfl) (.tmp rfl) ?_
         intro w' hp; exfalso; omega
       · refine dmkB (n := q.toNat) rfl 4 1 (fun b15 => ?_)
         refine WD.l ?_
         refine dmkSec (n := q.toNat) rfl slSecR (fun b11 => ?_)
         refine dq rfl (V_build (by kernel_rfl) (zi (zs := [(1, [.slice none 0 0]), (1, [.slice none 0 0]), (1, [.slice none 0 0]), (1, [.int .i64 0]), (1, [.bool false])])) (.one (k := 0) rfl rfl (by kernel_rfl) rfl (.one (k := 1) rfl rfl (by kernel_rfl) rfl (.one (k := 2) rfl rfl (by kernel_rfl) rfl (.one (k := 3) rfl rfl (by kernel_rfl) rfl (.nil _)))))) ?_
         refine WD.l ?_
         refine dbxa rfl (fun b17 => ?_)
         refine dq rfl (V_assign rfl) ?_
         refine dq rfl (V_assign rfl) ?_
         refine WD.done ?_
         refine WQ.then ?_
         refine W.ret ?_
         refine WQ.ret2 Try.results35 (.tmp rfl) (.tmp rfl) ?_
         intro w' hp; exfalso; omega
     · refine dmkB (n := q.toNat) rfl 4 1 (fun b15 => ?_)
       refine WD.l2 ?_ ?_
       · refine dmkSec (n := q.toNat) rfl slSecR (fun b11 => ?_)
         refine WD.l ?_
         refine dmkSec (n := q.toNat) rfl slSecR (fun b13 => ?_)
         refine dq rfl (V_build (by kernel_rfl) (zi (zs := [(1, [.slice none 0 0]), (1, [.slice none 0 0]), (1, [.slice none 0 0]), (1, [.int .i64 0]), (1, [.bool false])])) (.one (k := 0) rfl rfl (by kernel_rfl) rfl (.one (k := 1) rfl rfl (by kernel_rfl) rfl (.one (k := 2) rfl rfl (by kernel_rfl) rfl (.one (k := 3) rfl rfl (by kernel_rfl) rfl (.nil _)))))) ?_
         refine WD.l ?_
         refine dbxa rfl (fun b17 => ?_)
         refine dq rfl (V_assign rfl) ?_
         refine dq rfl (V_assign rfl) ?_
         refine WD.done ?_
         refine WQ.then ?_
         refine W.ret ?_
         refine WQ.ret2 Try.results35 (.tmp rfl) (.tmp rfl) ?_
         intro w' hp; exfalso; omega
       · refine dmkSec (n := q.toNat) rfl slSecR (fun b13 => ?_)
         refine WD.l ?_
         refine dmkSec (n := q.toNat) rfl slSecR (fun b11 => ?_)
         refine dq rfl (V_build (by kernel_rfl) (zi (zs := [(1, [.slice none 0 0]), (1, [.slice none 0 0]), (1, [.slice none 0 0]), (1, [.int .i64 0]), (1, [.bool false])])) (.one (k := 0) rfl rfl (by kernel_rfl) rfl (.one (k := 1) rfl rfl (by kernel_rfl) rfl (.one (k := 2) rfl rfl (by kernel_rfl) rfl (.one (k := 3) rfl rfl (by kernel_rfl) rfl (.nil _)))))) ?_
         refine WD.l ?_
         refine dbxa rfl (fun b17 => ?_)
         refine dq rfl (V_assign rfl) ?_
         refine dq rfl (V_assign rfl) ?_
         refine WD.done ?_
         refine WQ.then ?_
         refine W.ret ?_
         refine WQ.ret2 Try.results35 (.tmp rfl) (.tmp rfl) ?_
         intro w' hp; exfalso; omega

end Go.Proofs.Ytnpnnafcdnefiaa