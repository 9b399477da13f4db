/- Disks: what is pending (maps.Keys, slices.Sorted: the kit's shelf). -/
import Derived.Test.YtmeckbjinmgbbaaGreatDisk3
import Derived.Test.YtmeckbjinmgbbaaGreatXC
import Derived.Shelf.SlIterI.Nil
import Derived.Shelf.SortM.Plain
import Derived.Shelf.SortM.SortNone
set_option linter.unusedVariables false
set_option linter.unusedSimpArgs false

namespace Go.Proofs.YtmeckbjinmgbbaaGreat
open Go.RowKit Go.Maps Go.Sort Go.Shelf Go.X

/-- The sectors that are not sure, rising. -/
def pend (D : DS) : List Int := (D.m.map (·.1)).mergeSort fun x y => decide (x ≤ y)
theorem len_nodup : ∀ {n : Nat} {l : List Int}, l.Nodup → (∀ x ∈ l, 0 ≤ x ∧ x < n) → l.length ≤ n
  | 0, l, _, h => by
    cases l with
    | nil => simp
    | cons a l => have := h a List.mem_cons_self; omega
  | n + 1, l, hn, h => by
    have hf := len_nodup (n := n) (l := l.filter (fun x : Int => decide (x ≠ (n : Int)))) (hn.filter _) (fun x hx => by
      have h1 := List.mem_filter.1 hx
      have := h x h1.1
      have h2 : x ≠ n := by simpa using h1.2
      omega)
    have hc : l.length ≤ (l.filter (fun x : Int => decide (x ≠ (n : Int)))).length + 1 := by
      clear hf h
      induction l with
      | nil => simp
      | cons a l ih =>
        have hn' := List.nodup_cons.1 hn
        by_cases ha : a = (n : Int)
        · have : l.filter (fun x : Int => decide (x ≠ (n : Int))) = l := List.filter_eq_self.2 fun x hx => by
            simp; rintro rfl; exact hn'.1 (by rw [ha]; exact hx)
          rw [List.filter_cons_of_neg (by simp [ha]), this]; simp
        · rw [List.filter_cons_of_pos (by simp [ha])]
          have := ih hn'.2
          rw [List.length_cons, List.length_cons]; omega
    omega
theorem ents_le {D : DS} (hok : DOK D) : D.m.length ≤ 64 := by
  have := len_nodup (n := D.n) hok.keys (fun x hx => by
    obtain ⟨e, he, rfl⟩ := List.mem_map.1 hx
    exact (hok.ents e he).1)
  have h64 := hok.n64
  simp at this; omega
theorem pend_perm {D : DS} : (pend D).Perm (D.m.map (·.1)) := List.mergeSort_perm _ _
set_option maxRecDepth 8000 in
open Go.WideElems in
theorem owns_map {D : DS} (hok : DOK D) {m : Nat} {w : World} (hm : w.heap[m]? = some (mapO .i64 (D.m.map sE) D.ck)) :
    ∃ D0 : DataW Unit, w.ownsMap Tryz.prog 3 (fun _ => some (.nil, [])) m D.m.length D0 ∧ Maps.size D0 ≤ D.m.length ∧ ∀ ss : List Int, ss.Perm (intKeys D0) → ss.Perm (D.m.map (·.1)) := by
  have hlen : ((entL .i64 (D.m.map sE)).toArray).size = D.m.length := by simp [entL]
  have hkey : ∀ x ∈ entL .i64 (D.m.map sE), ∃ e ∈ D.m, x = ⟨.int .i64 e.1, AG [(64, iv .u8 e.2.1)], e.2.2⟩ := fun x hx => by
    obtain ⟨e, he, rfl⟩ := entL_mem hx
    obtain ⟨e', he', rfl⟩ := List.mem_map.1 he
    exact ⟨e', he', rfl⟩
  have hko : ∀ e ∈ D.m, keyOf Tryz.prog 3 (.int .i64 e.1) = some (.int .i64 e.1) := fun e he => by
    have hw : (Lit.int .i64 e.1).wf = true := by
      have := (hok.ents e he).1
      have := hok.n64
      simp [Lit.wf, IntKind.min, IntKind.max, IntKind.signed, IntKind.bits]
      omega
    simp [keyOf, Tryz.underlying3, mapKey, hw]
  have hrg : ∀ e ∈ D.m, (WideElems.rg Tryz.prog 3 (fun _ => some ((.nil : DataW Unit), ([] : List MemPlace))) ⟨.int .i64 e.1, AG [(64, iv .u8 e.2.1)], e.2.2⟩).1 = .int .i64 e.1 := fun e he => by
    simp [WideElems.rg, WideElems.rd, hko e he]
  have hml : D.m.length ≤ 64 := ents_le hok
  have hfit : WideElems.Fit Tryz.prog 3 (fun _ => some ((.nil : DataW Unit), ([] : List MemPlace))) (entL .i64 (D.m.map sE)).toArray D.ck := by
    refine ⟨by rw [hlen]; unfold maxLen; omega, ?_, fun x hx => ?_⟩
    · refine ⟨fun x hx => ?_, ?_, ?_⟩
      · obtain ⟨e, he, rfl⟩ := hkey x (by simpa using hx)
        exact (hok.ents e he).2.2
      · simpa [entL, List.map_map, Function.comp_def, sE] using hok.borns
      · have : (D.m.map fun e => Value.int .i64 e.1).Nodup := by
          have h := hok.keys
          rw [List.nodup_iff_pairwise_ne, List.pairwise_map] at h ⊢
          exact h.imp fun hne e => hne (by injection e)
        simpa [entL, List.map_map, Function.comp_def, sE] using this
    · obtain ⟨e, he, rfl⟩ := hkey x (by simpa using hx)
      exact ⟨_, WideElems.rd_mk (hko e he) rfl⟩
  refine ⟨_, ⟨_, D.ck, hm, hfit, by rw [hlen]; exact Nat.le_refl _, rfl⟩, ?_, fun ss hss => ?_⟩
  · show List.length _ ≤ _
    rw [length_sorted]; simp [entL]
  · refine hss.trans ?_
    show (((entL .i64 (D.m.map sE)).toArray.toList.map (WideElems.rg Tryz.prog 3 _)).foldr DataW.insert []).map (fun p => Go.intOf p.1) |>.Perm (D.m.map (·.1))
    refine ((Go.WideShapes.sorted_perm _).map _).trans ?_
    have : ((entL .i64 (D.m.map sE)).toArray.toList.map (WideElems.rg Tryz.prog 3 fun _ => some ((.nil : DataW Unit), ([] : List MemPlace)))).map (fun p => Go.intOf p.1) = D.m.map (·.1) := by
      simp only [entL, List.map_map]
      refine List.map_congr_left fun e he => ?_
      have := congrArg Go.intOf (hrg e he)
      exact this
    rw [this]
end Go.Proofs.YtmeckbjinmgbbaaGreat

namespace Go.Proofs.YtmeckbjinmgbbaaGreat
open Go.X

end Go.Proofs.YtmeckbjinmgbbaaGreat
/- Disks: Crash. -/
namespace Go.Proofs.YtmeckbjinmgbbaaGreat
open Go.X
def bitB (kept : Int) (i : Nat) : Bool := decide (andI .u64 (shrI .u64 kept i) 1 = 1)
/-- What is sure when of the pending ones so many have been gone through. -/
def crashN (D : DS) (kept : Int) : Nat → List (List Int)
  | 0 => D.sure
  | i + 1 => if bitB kept i then (crashN D kept i).set ((pend D).getD i 0).toNat (cur D ((pend D).getD i 0).toNat) else crashN D kept i
def crD (D : DS) (kept : Int) : DS := { D with sure := crashN D kept D.m.length, m := [], fuse := -1, dead := false }
theorem pend_len {D : DS} : (pend D).length = D.m.length := by rw [pend_perm.length_eq]; simp
theorem pend_mem {D : DS} (hok : DOK D) {i : Nat} (hi : i < D.m.length) : ∃ s, pget D.m ((pend D).getD i 0) = some s ∧ (0 ≤ (pend D).getD i 0 ∧ (pend D).getD i 0 < D.n) ∧ Sec s ∧ cur D ((pend D).getD i 0).toNat = s := by
  have hil : i < (pend D).length := by rw [pend_len]; exact hi
  have hm : (pend D).getD i 0 ∈ D.m.map (·.1) := by
    rw [List.getD_eq_getElem?_getD, List.getElem?_eq_getElem hil]
    exact pend_perm.subset (List.getElem_mem hil)
  obtain ⟨e, he, heq⟩ := List.mem_map.1 hm
  have hE := hok.ents e he
  have hg := pget_in hok.keys he
  rw [← heq]
  refine ⟨e.2.1, hg, hE.1, hE.2.1, ?_⟩
  unfold cur
  rw [Int.toNat_of_nonneg hE.1.1, hg]; rfl
end Go.Proofs.YtmeckbjinmgbbaaGreat
/- Disks: the document's answer. -/
namespace Go.Proofs.YtmeckbjinmgbbaaGreat
open Go.X
structure RS where
  n : Nat
  sure : List (List Int)
  new : List (List Int)
  iss : List Bool
  fuse : Int
  dead : Bool
structure RK where
  d : Nat
  s : Nat
  x : Nat
  i : Nat
/-- The program's disk, and the document's, are the same. -/
structure Rl (D : DS) (R : RS) : Prop where
  n : R.n = D.n
  sure : R.sure = D.sure
  fuse : R.fuse = D.fuse
  dead : R.dead = D.dead
  nlen : R.new.length = D.n
  news : ∀ s ∈ R.new, Sec s
  ilen : R.iss.length = D.n
  is_ : ∀ i, i < D.n → R.iss.getD i false = (pget D.m i).isSome
  new_ : ∀ (i : Nat) s, pget D.m i = some s → R.new.getD i [] = s
theorem getD_set {α : Type} {l : List α} {i j : Nat} {x d : α} (hi : i < l.length) : (l.set i x).getD j d = if i = j then x else l.getD j d := by
  rw [List.getD_eq_getElem?_getD, List.getD_eq_getElem?_getD, List.getElem?_set]
  by_cases h : i = j
  · subst h; simp [hi]
  · simp [h]
theorem Rl.cur {D : DS} {R : RS} (h : Rl D R) {i : Nat} (hi : i < D.n) : (if R.iss.getD i false = true then R.new.getD i [] else R.sure.getD i []) = cur D i := by
  rw [h.is_ i hi, h.sure]
  unfold Go.Proofs.YtmeckbjinmgbbaaGreat.cur
  cases hq : pget D.m i with
  | none => rfl
  | some s => rw [if_pos (show (some s).isSome = true from rfl), h.new_ i s hq]; rfl
end Go.Proofs.YtmeckbjinmgbbaaGreat
/- Disks: the document's answer, its methods. -/
namespace Go.Proofs.YtmeckbjinmgbbaaGreat
open Go.X
end Go.Proofs.YtmeckbjinmgbbaaGreat
/- Disks: the document's answer: Sync, Pending, Crash. -/
namespace Go.Proofs.YtmeckbjinmgbbaaGreat
open Go.X
/-- Of what was gone through so far. -/
structure SyI (D : DS) (R : RS) (i : Nat) (su : List (List Int)) (bs : List Bool) : Prop where
  len : su.length = D.n
  secs : ∀ s ∈ su, Sec s
  get : ∀ j, j < D.n → su.getD j [] = if j < i then cur D j else D.sure.getD j []
  blen : bs.length = D.n
  bget : ∀ j, j < D.n → bs.getD j false = if j < i then false else R.iss.getD j false
theorem SyI.start {D : DS} {R : RS} (hok : DOK D) (h : Rl D R) : SyI D R 0 R.sure R.iss :=
  ⟨by rw [h.sure]; exact hok.len, by rw [h.sure]; exact hok.secs, fun j _ => by rw [h.sure]; rfl, h.ilen, fun j _ => rfl⟩
theorem SyI.yes {D : DS} {R : RS} (hok : DOK D) (h : Rl D R) {i : Nat} {su : List (List Int)} {bs : List Bool} (hi : i < D.n) (hs : SyI D R i su bs) (hb : R.iss.getD i false = true) : SyI D R (i + 1) (su.set i (R.new.getD i [])) (bs.set i false) := by
  have hc := h.cur hi
  rw [if_pos hb] at hc
  obtain ⟨h1, h2, h3, h4, h5⟩ := hs
  refine ⟨by simp [h1], fun s hs => ?_, fun j hj => ?_, by simp [h4], fun j hj => ?_⟩
  · rcases List.mem_or_eq_of_mem_set hs with h | rfl
    · exact h2 s h
    · rw [hc]; exact hok.cur hi
  · rw [getD_set (by omega), h3 j hj, hc]
    by_cases e : i = j
    · subst e; rw [if_pos rfl, if_pos (by omega)]
    · rw [if_neg e]; by_cases e2 : j < i
      · rw [if_pos e2, if_pos (by omega)]
      · rw [if_neg e2, if_neg (by omega)]
  · rw [getD_set (by omega), h5 j hj]
    by_cases e : i = j
    · subst e; rw [if_pos rfl, if_pos (by omega)]
    · rw [if_neg e]; by_cases e2 : j < i
      · rw [if_pos e2, if_pos (by omega)]
      · rw [if_neg e2, if_neg (by omega)]
theorem SyI.no {D : DS} {R : RS} (h : Rl D R) {i : Nat} {su : List (List Int)} {bs : List Bool} (hi : i < D.n) (hs : SyI D R i su bs) (hb : R.iss.getD i false = false) : SyI D R (i + 1) su (bs.set i false) := by
  have hc := h.cur hi
  rw [hb] at hc
  rw [if_neg (by simp), h.sure] at hc
  obtain ⟨h1, h2, h3, h4, h5⟩ := hs
  refine ⟨h1, h2, fun j hj => ?_, by simp [h4], fun j hj => ?_⟩
  · rw [h3 j hj]
    by_cases e : i = j
    · subst e; rw [if_neg (by omega), if_pos (by omega), hc]
    · by_cases e2 : j < i
      · rw [if_pos e2, if_pos (by omega)]
      · rw [if_neg e2, if_neg (by omega)]
  · rw [getD_set (by omega), h5 j hj]
    by_cases e : i = j
    · subst e; rw [if_pos rfl, if_pos (by omega)]
    · rw [if_neg e]; by_cases e2 : j < i
      · rw [if_pos e2, if_pos (by omega)]
      · rw [if_neg e2, if_neg (by omega)]
theorem SyI.done {D : DS} {R : RS} (h : Rl D R) {su : List (List Int)} {bs : List Bool} (hs : SyI D R D.n su bs) : Rl (flush D) { R with sure := su, iss := bs } := by
  obtain ⟨h1, h2, h3, h4, h5⟩ := hs
  refine ⟨h.n, ?_, h.fuse, h.dead, h.nlen, h.news, h4, fun i hi => ?_, fun i s hx => by cases hx⟩
  · apply List.ext_getElem
    · simp [flush, merged, h1]
    · intro i hi1 hi2
      have hi : i < D.n := by rw [← h1]; exact hi1
      have e1 : su.getD i [] = su[i] := by rw [List.getD_eq_getElem?_getD, List.getElem?_eq_getElem hi1]; rfl
      have hi3 : i < (merged D).length := hi2
      have e2 : (merged D).getD i [] = (merged D)[i]'hi3 := by rw [List.getD_eq_getElem?_getD, List.getElem?_eq_getElem hi3]; rfl
      show su[i] = (merged D)[i]'hi3
      rw [← e1, ← e2, h3 i hi, if_pos hi, merged_get hi]
  · show bs.getD i false = _
    rw [h5 i hi, if_pos (show i < D.n from hi)]; rfl
end Go.Proofs.YtmeckbjinmgbbaaGreat
/- Disks: the document's answer: Crash. -/
namespace Go.Proofs.YtmeckbjinmgbbaaGreat
open Go.X
structure CrI (D : DS) (R : RS) (i : Nat) (bs : List Bool) : Prop where
  blen : bs.length = D.n
  bget : ∀ j : Nat, j < D.n → bs.getD j false = (R.iss.getD j false && decide ((j : Int) ∉ (pend D).take i))
theorem CrI.start {D : DS} {R : RS} (h : Rl D R) : CrI D R 0 R.iss := ⟨h.ilen, fun j _ => by simp⟩
theorem CrI.next {D : DS} {R : RS} {i : Nat} {bs : List Bool} (hok : DOK D) (hi : i < D.m.length) (h : CrI D R i bs) : CrI D R (i + 1) (bs.set ((pend D).getD i 0).toNat false) := by
  obtain ⟨h1, h2⟩ := h
  obtain ⟨s, _, hb, _, _⟩ := pend_mem hok hi
  have hil : i < (pend D).length := by rw [pend_len]; exact hi
  have hg : (pend D).getD i 0 = (pend D)[i] := by rw [List.getD_eq_getElem?_getD, List.getElem?_eq_getElem hil]; rfl
  refine ⟨by simp [h1], fun j hj => ?_⟩
  have hmem : ((j : Int) ∈ (pend D).take (i + 1)) = ((j : Int) ∈ (pend D).take i ∨ (j : Int) = (pend D)[i]) := by
    rw [List.take_add_one, List.getElem?_eq_getElem hil]
    simp only [List.mem_append, Option.toList_some, List.mem_singleton]
  rw [getD_set (by omega), h2 j hj]
  simp only [hmem]
  by_cases e : ((pend D).getD i 0).toNat = j
  · rw [if_pos e]
    have : (j : Int) = (pend D)[i] := by rw [← hg]; omega
    simp [this]
  · rw [if_neg e]
    have : ¬ (j : Int) = (pend D)[i] := by rw [← hg]; omega
    simp [this]
theorem CrI.done {D : DS} {R : RS} {bs : List Bool} {kept : Int} (hok : DOK D) (hr : Rl D R) (h : CrI D R D.m.length bs) : Rl (crD D kept) { R with sure := crashN D kept D.m.length, iss := bs, fuse := -1, dead := false } := by
  obtain ⟨h1, h2⟩ := h
  refine ⟨hr.n, rfl, rfl, rfl, hr.nlen, hr.news, h1, fun i hi => ?_, fun i s hx => by cases hx⟩
  show bs.getD i false = false
  have hi' : i < D.n := hi
  rw [h2 i hi', hr.is_ i hi']
  cases hq : pget D.m i with
  | none => rfl
  | some s =>
    obtain ⟨n, hn⟩ := pget_mem hq
    have hm : (i : Int) ∈ pend D := pend_perm.symm.subset (List.mem_map.2 ⟨_, hn, rfl⟩)
    rw [← pend_len, List.take_length]
    simp [hm]

end Go.Proofs.YtmeckbjinmgbbaaGreat
/- Disks: crashes, and disks that live. -/
namespace Go.Proofs.YtmeckbjinmgbbaaGreat
open Go.X
/-- The power is on, and no fuse burns. -/
def Live (D : DS) : Prop := D.fuse = -1 ∧ D.dead = false
theorem Live.burn {D : DS} (h : Live D) : burnE D = 0 ∧ burnD D = D := by
  obtain ⟨h1, h2⟩ := h
  obtain ⟨e1, e2⟩ := burn_f h2 (by omega)
  refine ⟨e1, ?_⟩
  rw [e2, h1, show max ((-1 : Int) - 1) (-1) = -1 by decide]
  obtain ⟨n, su, m, ck, fu, de⟩ := D
  simp only at h1
  subst h1; rfl
theorem Live.wr {D : DS} (h : Live D) {i : Int} {s : List Int} : wrD D i s = if inR D i then putD D i s else D := by
  unfold wrD; rw [h.burn.1, h.burn.2]; rfl
theorem Live.wrE {D : DS} (h : Live D) {i : Int} : wrE D i = if inR D i then 0 else 1 := by
  unfold Go.Proofs.YtmeckbjinmgbbaaGreat.wrE; rw [h.burn.1]
theorem Live.sy {D : DS} (h : Live D) : syD D = flush D := by rw [sy_ok h.burn.1, h.burn.2]
theorem newD_live {n : Nat} : Live (newD n) := ⟨rfl, rfl⟩
theorem putD_cur {D : DS} {i : Int} {s : List Int} {j : Nat} : cur (putD D i s) j = if i = (j : Int) then s else cur D j := by
  unfold cur
  rw [show (putD D i s).m = pput D.m D.ck i s from rfl, show (putD D i s).sure = D.sure from rfl, pget_put]
  split <;> rfl
theorem flush_cur {D : DS} {j : Nat} (hj : j < D.n) : cur (flush D) j = cur D j := merged_get hj
theorem rdS_sec {D : DS} (h : DOK D) {i : Int} : Sec (rdS D i) := by
  unfold rdS; split
  · rename_i hi; have := inR_bd hi; exact h.cur (by omega)
  · exact sec0
theorem rd_in {D : DS} {i : Nat} (h : i < D.n) : rdE D (i : Int) = 0 ∧ rdS D (i : Int) = cur D i := by
  have hr : inR D (i : Int) = true := by simp only [inR, Bool.and_eq_true, decide_eq_true_eq]; omega
  exact ⟨if_pos hr, by unfold rdS; rw [if_pos hr]; rfl⟩

end Go.Proofs.YtmeckbjinmgbbaaGreat