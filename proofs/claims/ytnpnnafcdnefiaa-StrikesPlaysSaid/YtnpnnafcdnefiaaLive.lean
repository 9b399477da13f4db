/- Disks: crashes, and disks that live. -/
import Derived.Test.YtnpnnafcdnefiaaRef4
set_option linter.unusedVariables false
set_option linter.unusedSimpArgs false

namespace Go.Proofs.Ytnpnnafcdnefiaa
open Go.X
def ofL (b : Int) : List Int := ((List.replicate 64 (0 : Int)).set 0 b).set 63 b
theorem ofL_sec {b : Int} (h : 0 ≤ b ∧ b ≤ 255) : Sec (ofL b) := by
  refine ⟨by simp [ofL], fun c hc => ?_⟩
  rcases List.mem_or_eq_of_mem_set hc with h1 | rfl
  · rcases List.mem_or_eq_of_mem_set h1 with h2 | rfl
    · rw [List.eq_of_mem_replicate h2]; omega
    · exact h
  · exact h
theorem crash_get {D : DS} {kept : Int} (hok : DOK D) {i : Nat} : ∀ {k : Nat}, k ≤ D.m.length →
    (crashN D kept k).getD i [] = if ∃ t, t < k ∧ (pend D).getD t 0 = (i : Int) ∧ bitB kept t = true then cur D i else D.sure.getD i []
  | 0, _ => by rw [if_neg (by rintro ⟨t, h, _⟩; omega)]; rfl
  | k + 1, hk => by
    have ih := crash_get hok (i := i) (k := k) (kept := kept) (by omega)
    obtain ⟨s, h1, h2, h3, h4⟩ := pend_mem hok (i := k) (by omega)
    have hl := crashN_len (D := D) (kept := kept) (i := k)
    have hlen := hok.len
    unfold crashN
    by_cases hb : bitB kept k = true
    · rw [if_pos hb, getD_set (by omega)]
      by_cases e : ((pend D).getD k 0).toNat = i
      · rw [if_pos e, if_pos ⟨k, by omega, by omega, hb⟩, e]
      · rw [if_neg e, ih]
        have : (∃ t, t < k + 1 ∧ (pend D).getD t 0 = (i : Int) ∧ bitB kept t = true) ↔ ∃ t, t < k ∧ (pend D).getD t 0 = (i : Int) ∧ bitB kept t = true := by
          constructor
          · rintro ⟨t, ht, h5, h6⟩
            refine ⟨t, ?_, h5, h6⟩
            rcases Nat.lt_succ_iff_lt_or_eq.1 ht with h | rfl
            · exact h
            · omega
          · rintro ⟨t, ht, h5, h6⟩; exact ⟨t, by omega, h5, h6⟩
        simp only [this]
    · rw [if_neg hb, ih]
      have : (∃ t, t < k + 1 ∧ (pend D).getD t 0 = (i : Int) ∧ bitB kept t = true) ↔ ∃ t, t < k ∧ (pend D).getD t 0 = (i : Int) ∧ bitB kept t = true := by
        constructor
        · rintro ⟨t, ht, h5, h6⟩
          refine ⟨t, ?_, h5, h6⟩
          rcases Nat.lt_succ_iff_lt_or_eq.1 ht with h | rfl
          · exact h
          · exact absurd h6 hb
        · rintro ⟨t, ht, h5, h6⟩; exact ⟨t, by omega, h5, h6⟩
      simp only [this]
theorem crD_cur {D : DS} {kept : Int} {i : Nat} : cur (crD D kept) i = (crashN D kept D.m.length).getD i [] := rfl
theorem crash_one {D : DS} {kept : Int} (hok : DOK D) {i : Nat} : cur (crD D kept) i = cur D i ∨ cur (crD D kept) i = D.sure.getD i [] := by
  rw [crD_cur, crash_get hok (Nat.le_refl _)]
  split
  · exact .inl rfl
  · exact .inr rfl
theorem bit_zero {t : Nat} : bitB 0 t = false := by
  rw [bit_rem (by omega)]
  refine decide_eq_false ?_
  unfold shrI
  rw [Int.zero_fdiv]; decide
theorem bit_all {t : Nat} (h : t < 64) : bitB 18446744073709551615 t = true := by
  rw [bit_rem (by omega)]
  have key : ∀ t : Fin 64, shrI .u64 18446744073709551615 ((t : Nat) : Int) % 2 = 1 := by decide +kernel
  exact decide_eq_true (key ⟨t, h⟩)
theorem crash_none {D : DS} (hok : DOK D) {i : Nat} : cur (crD D 0) i = D.sure.getD i [] := by
  rw [crD_cur, crash_get hok (Nat.le_refl _), if_neg]
  rintro ⟨t, _, _, h⟩
  rw [bit_zero] at h; cases h
theorem crash_all {D : DS} (hok : DOK D) {i : Nat} : cur (crD D 18446744073709551615) i = cur D i := by
  rw [crD_cur, crash_get hok (Nat.le_refl _)]
  split
  · rfl
  · rename_i h
    unfold cur
    cases hq : pget D.m i with
    | none => rfl
    | some s =>
      exfalso
      obtain ⟨n, hn⟩ := pget_mem hq
      have hm : (i : Int) ∈ pend D := pend_perm.symm.subset (List.mem_map.2 ⟨_, hn, rfl⟩)
      obtain ⟨t, ht, heq⟩ := List.getElem_of_mem hm
      have hml := ents_le hok
      rw [pend_len] at ht
      exact h ⟨t, ht, by rw [List.getD_eq_getElem?_getD, List.getElem?_eq_getElem (by rw [pend_len]; exact ht), ← heq]; rfl, bit_all (by omega)⟩
/-- The power is on, and no fuse burns. -/
def Live (D : DS) : Prop := D.fuse = -1 ∧ D.dead = false
theorem Live.burn {D : DS} (h : Live D) : burnE D = 0 ∧ burnD D = D := by
  obtain ⟨h1, h2⟩ := h
  obtain ⟨e1, e2⟩ := burn_f h2 (by omega)
  refine ⟨e1, ?_⟩
  rw [e2, h1, show max ((-1 : Int) - 1) (-1) = -1 by decide]
  obtain ⟨n, su, m, ck, fu, de⟩ := D
  simp only at h1
  subst h1; rfl
theorem Live.wr {D : DS} (h : Live D) {i : Int} {s : List Int} : wrD D i s = if inR D i then putD D i s else D := by
  unfold wrD; rw [h.burn.1, h.burn.2]; rfl
theorem Live.wrE {D : DS} (h : Live D) {i : Int} : wrE D i = if inR D i then 0 else 1 := by
  unfold Go.Proofs.Ytnpnnafcdnefiaa.wrE; rw [h.burn.1]
theorem Live.sy {D : DS} (h : Live D) : syD D = flush D := by rw [sy_ok h.burn.1, h.burn.2]
theorem Live.wrL {D : DS} (h : Live D) {i : Int} {s : List Int} : Live (wrD D i s) := by
  rw [h.wr]; split <;> exact h
theorem Live.syL {D : DS} (h : Live D) : Live (syD D) := by rw [h.sy]; exact h
theorem Live.cr {D : DS} {kept : Int} : Live (crD D kept) := ⟨rfl, rfl⟩
theorem newD_live {n : Nat} : Live (newD n) := ⟨rfl, rfl⟩
theorem putD_cur {D : DS} {i : Int} {s : List Int} {j : Nat} : cur (putD D i s) j = if i = (j : Int) then s else cur D j := by
  unfold cur
  rw [show (putD D i s).m = pput D.m D.ck i s from rfl, show (putD D i s).sure = D.sure from rfl, pget_put]
  split <;> rfl
theorem flush_cur {D : DS} {j : Nat} (hj : j < D.n) : cur (flush D) j = cur D j := merged_get hj
theorem wr_n {D : DS} {i : Int} {s : List Int} : (wrD D i s).n = D.n := by
  unfold wrD; split
  · split
    · exact burnD_n
    · exact burnD_n
  · rfl
theorem sy_n {D : DS} : (syD D).n = D.n := by unfold syD; split <;> exact burnD_n
theorem rdS_sec {D : DS} (h : DOK D) {i : Int} : Sec (rdS D i) := by
  unfold rdS; split
  · rename_i hi; have := inR_bd hi; exact h.cur (by omega)
  · exact sec0
theorem rdS_len {D : DS} (h : DOK D) {i : Int} : (rdS D i).length = 64 := (rdS_sec h).1
theorem rd_in {D : DS} {i : Nat} (h : i < D.n) : rdE D (i : Int) = 0 ∧ rdS D (i : Int) = cur D i := by
  have hr : inR D (i : Int) = true := by simp only [inR, Bool.and_eq_true, decide_eq_true_eq]; omega
  exact ⟨if_pos hr, by unfold rdS; rw [if_pos hr]; rfl⟩

end Go.Proofs.Ytnpnnafcdnefiaa