/- Layer 20: relays, whole: an envelope sent, mails. -/
import Derived.Test.YtmeckbjinmgbbaaRW
set_option linter.unusedVariables false
set_option linter.unusedSimpArgs false

namespace Go.Proofs.Ytmeckbjinmgbbaa
open Go.X
section
variable {Q : List (Option AAcc)} {e : EnvS} {k : Nat} {l tag root : List Int} {now ticks : Int}
theorem ws_bad (h : heB e k = false ∨ e.fr = e.to ∨ now < 0 ∨ 1000000 < now) : wsE Q e k l tag now = 1 ∧ wsS root ticks Q e k l tag now = StampS.zero ∧ wsQ root ticks Q e k l tag now = Q := ⟨if_pos h, if_pos h, if_pos h⟩
theorem ws_none (h : ¬ (heB e k = false ∨ e.fr = e.to ∨ now < 0 ∨ 1000000 < now)) (h2 : ofP Q e.fr = none ∨ ofP Q e.to = none) : wsE Q e k l tag now = 7 ∧ wsS root ticks Q e k l tag now = StampS.zero ∧ wsQ root ticks Q e k l tag now = Q := by
  unfold wsE wsS wsQ
  rw [if_neg h, if_neg h, if_neg h]
  rcases h2 with h2 | h2
  · rw [h2]; exact ⟨rfl, rfl, rfl⟩
  · rw [h2]; cases ofP Q e.fr <;> exact ⟨rfl, rfl, rfl⟩
theorem ws_two (h : ¬ (heB e k = false ∨ e.fr = e.to ∨ now < 0 ∨ 1000000 < now)) {a c : AAcc} (h2 : ofP Q e.fr = some a) (h3 : ofP Q e.to = some c) : wsE Q e k l tag now = sndE a c e l tag now ∧ wsS root ticks Q e k l tag now = sndS root ticks a c e l tag now ∧ wsQ root ticks Q e k l tag now = (Q.set e.fr.toNat (some (sndA a c e l tag now))).set e.to.toNat (some (sndC root ticks a c e l tag now)) := by
  unfold wsE wsS wsQ
  rw [if_neg h, if_neg h, if_neg h, h2, h3]; exact ⟨rfl, rfl, rfl⟩
theorem sndC_many {a c : AAcc} : (sndC root ticks a c e l tag now).many ≤ c.many + 1 := by
  unfold sndC; split
  · exact Int.le_refl _
  · omega
theorem sndA_many {a c : AAcc} : (sndA a c e l tag now).many = a.many := by unfold sndA; split <;> rfl
end
theorem accs_two {f : PAcc → List (Nat × Blk)} {qs : List (Option PAcc)} {i j : Nat} {a c : PAcc} (hij : i ≠ j) (hi : qs[i]? = some (some a)) (hj : qs[j]? = some (some c)) : (accs f qs).Perm ((f a ++ f c) ++ accs f ((qs.set i none).set j none)) := by
  have h1 := accs_split (f := f) hi
  have h2 := accs_split (f := f) (qs := qs.set i none) (k := j) (q := some c) (by rw [List.getElem?_set_ne hij]; exact hj)
  rw [List.append_assoc]
  exact h1.trans (List.Perm.append_left _ h2)
theorem accs_two' {f : PAcc → List (Nat × Blk)} {qs : List (Option PAcc)} {i j : Nat} {a c : PAcc} (hij : i ≠ j) (hi : i < qs.length) (hj : j < qs.length) : (accs f ((qs.set i (some a)).set j (some c))).Perm ((f a ++ f c) ++ accs f ((qs.set i none).set j none)) := by
  have h := accs_two (f := f) (qs := (qs.set i (some a)).set j (some c)) (i := i) (j := j) (a := a) (c := c) hij (by rw [List.getElem?_set_ne (Ne.symm hij), List.getElem?_set_self hi]) (by rw [List.getElem?_set_self (by rw [List.length_set]; exact hj)])
  have e : (((qs.set i (some a)).set j (some c)).set i none).set j none = (qs.set i none).set j none := by rw [List.set_comm (some c) none (Ne.symm hij), List.set_set, List.set_set]
  rw [e] at h
  exact h

theorem snd20W (b : Nat) (R : Rel) (ticks : Int) (root : List Int) (hti : 1 ≤ ticks) (hrl : root.length = 32) (hrb : bytes root) (qs : List (Option PAcc)) (k : Int) (hq : QOK POK k qs) (m : List Ent) (ck : Nat) (hg : Good root m) (e : EnvS) (A : Option Addr) (n cap : Nat) (l : List Int) (he : EnOK e A n cap l) (tag : List Int) (htl : tag.length = 32) (htb : bytes tag) (now : Int) (hk : k ≤ 1000000) (w : World) (hp0 : HP w w (((b, .cells (relS R.r (psO qs)) 110) :: (stpL R ticks root m ck ++ accs accP qs)).map (·.1)) ((b, .cells (relS R.r (psO qs)) 110) :: (stpL R ticks root m ck ++ accs accP qs))) (hs0 : ∀ w' M, HP w w' (((b, .cells (relS R.r (psO qs)) 110) :: (stpL R ticks root m ck ++ accs accP qs)).map (·.1)) M → SrW w' 1 A n (iv .u8 l)) :
    Calls Try.prog 15 [.pointer (some ⟨b, 0, none⟩), AG (enV e), AG [(32, iv .u8 tag)], .int .i64 now].toArray w fun e' w' => ∃ r : List (Option PAcc) × List Ent × Nat, (QOK POK (k + 1) r.1 ∧ absO r.1 = wsQ root ticks (absO qs) e n l tag now ∧ psO r.1 = psO qs ∧ Good root r.2.1) ∧ e' = .returned (.tuple #[AG (stV (wsS root ticks (absO qs) e n l tag now)), .int .i64 (wsE (absO qs) e n l tag now)]) ∧ HP w w' (((b, .cells (relS R.r (psO qs)) 110) :: (stpL R ticks root m ck ++ accs accP qs)).map (·.1)) ((b, .cells (relS R.r (psO qs)) 110) :: (stpL R ticks root r.2.1 r.2.2 ++ accs accP r.1)) := by
  have hs1 := hs0 w _ hp0
  have hq1 : QOK POK (k + 1) qs := hq.mono (by omega)
  by_cases hh : heB e n = true
  · by_cases hok : e.fr = e.to ∨ now < 0 ∨ 1000000 < now
    · obtain ⟨e1, e2, e3⟩ := ws_bad (Q := absO qs) (l := l) (tag := tag) (root := root) (ticks := ticks) (k := n) (.inr hok)
      exact (frm0 hp0 (send20_bad2 b e A n cap l he hh tag htl htb now hok w hs1)).mono fun e' w' ⟨h4, h5⟩ => ⟨(qs, m, ck), ⟨hq1, e3.symm, rfl, hg⟩, by rw [h4, e1, e2], h5⟩
    · have hno : ¬ (heB e n = false ∨ e.fr = e.to ∨ now < 0 ∨ 1000000 < now) := by rw [hh]; rintro (h | h); cases h; exact hok h
      have hA : AtW w b _ := HP.atw hp0 List.mem_cons_self
      cases h : ofP qs e.fr with
      | none =>
        obtain ⟨e1, e2, e3⟩ := ws_none (Q := absO qs) (l := l) (tag := tag) (root := root) (ticks := ticks) hno (.inl (by rw [ofP_absO, h]; rfl))
        exact (frm0 hp0 (send20_none1 b R ticks root (psO qs) hq.p8 e A n cap l he hh tag htl htb now hok (by rw [ofP_psO, h]; rfl) w hA hs1)).mono fun e' w' ⟨h4, h5⟩ => ⟨(qs, m, ck), ⟨hq1, e3.symm, rfl, hg⟩, by rw [h4, e1, e2], h5⟩
      | some a =>
        cases h3 : ofP qs e.to with
        | none =>
          obtain ⟨e1, e2, e3⟩ := ws_none (Q := absO qs) (l := l) (tag := tag) (root := root) (ticks := ticks) hno (.inr (by rw [ofP_absO, h3]; rfl))
          exact (frm0 hp0 (send20_none2 b R ticks root (psO qs) hq.p8 e A n cap l he hh tag htl htb now hok a.p (by rw [ofP_psO, h]; rfl) (by rw [ofP_psO, h3]; rfl) w hA hs1)).mono fun e' w' ⟨h4, h5⟩ => ⟨(qs, m, ck), ⟨hq1, e3.symm, rfl, hg⟩, by rw [h4, e1, e2], h5⟩
        | some c =>
          obtain ⟨⟨ha, hma⟩, hs, hn⟩ := hq.at_ h
          obtain ⟨⟨hc, hmc⟩, hs3, hn3⟩ := hq.at_ h3
          have h8 := hq.len
          have hij : e.fr.toNat ≠ e.to.toNat := by omega
          obtain ⟨e1, e2, e3⟩ := ws_two (Q := absO qs) (l := l) (tag := tag) (root := root) (ticks := ticks) hno (a := a.abs) (c := c.abs) (by rw [ofP_absO, h]; rfl) (by rw [ofP_absO, h3]; rfl)
          have hD : ((b, .cells (relS R.r (psO qs)) 110) :: (stpL R ticks root m ck ++ accs accP qs)).Perm (((b, .cells (relS R.r (psO qs)) 110) :: (stpL R ticks root m ck ++ (accP a ++ accP c))) ++ accs accP ((qs.set e.fr.toNat none).set e.to.toNat none)) := List.Perm.cons _ (by show List.Perm _ ((_ ++ _) ++ _); rw [List.append_assoc]; exact List.Perm.append_left _ (accs_two hij hs hs3))
          refine (frm hp0 (M0 := (b, .cells (relS R.r (psO qs)) 110) :: (stpL R ticks root m ck ++ (accP a ++ accP c))) (Lr := accs accP ((qs.set e.fr.toNat none).set e.to.toNat none)) hD fun hp => send20_calls b R ticks root hti hrl hrb (psO qs) hq.p8 m ck hg e A n cap l he hh tag htl htb now hok a c ha hc (by rw [ofP_psO, h]; rfl) (by rw [ofP_psO, h3]; rfl) (by omega) w hp (fun w1 M h1 => hs0 w1 _ (hp0.transP hD h1))).mono fun e' w' ⟨⟨a', c', m', ck'⟩, ⟨h4, h5, p1, p2, h6, h6c, hg2⟩, h7, h9⟩ => ⟨(((qs.set e.fr.toNat (some a')).set e.to.toNat (some c')), m', ck'), ⟨(hq1.set _ h4 (Int.le_refl _) ?_).set _ h5 (Int.le_refl _) ?_, ?_, ?_, hg2⟩, by rw [h7, e1, e2], ?_⟩
          · rw [show a'.many = _ from congrArg AAcc.many h6, sndA_many]; show a.many ≤ k + 1; omega
          · rw [show c'.many = _ from congrArg AAcc.many h6c]; exact Int.le_trans sndC_many (by show c.many + 1 ≤ k + 1; omega)
          · rw [e3, absO_set, absO_set]; show ((absO qs).set _ (some a'.abs)).set _ (some c'.abs) = _; rw [h6, h6c]
          · rw [psO_set, psO_same hs p1]
            have h2 := psO_same hs3 p2
            rw [psO_set] at h2; exact h2
          · exact h9.perm (List.Perm.cons _ (by show List.Perm _ ((_ ++ _) ++ _); rw [List.append_assoc]; exact List.Perm.append_left _ (accs_two' hij (by omega) (by omega))))
  · have hf : heB e n = false := by simpa using hh
    obtain ⟨e1, e2, e3⟩ := ws_bad (Q := absO qs) (l := l) (tag := tag) (root := root) (ticks := ticks) (now := now) (.inl hf)
    exact (frm0 hp0 (send20_bad1 b e A n cap l he hh tag htl htb now w)).mono fun e' w' ⟨h4, h5⟩ => ⟨(qs, m, ck), ⟨hq1, e3.symm, rfl, hg⟩, by rw [h4, e1, e2], h5⟩

theorem rsnd20W (root : List Int) (hrl : root.length = 32) (hrb : bytes root) (ticks : Int) (hti : 1 ≤ ticks) (b : Nat) (qs : List (Option PAcc)) (k : Int) (hq : QOK AOK k qs) (e : EnvS) (A : Option Addr) (n cap : Nat) (l : List Int) (he : EnOK e A n cap l) (tag : List Int) (htl : tag.length = 32) (htb : bytes tag) (now : Int) (hk : k ≤ 1000000) (w : World) (hp0 : HP w w (((b, .cells (rlS root ticks (psO qs)) 130) :: accs accR qs).map (·.1)) ((b, .cells (rlS root ticks (psO qs)) 130) :: accs accR qs)) (hs0 : ∀ w' M, HP w w' (((b, .cells (rlS root ticks (psO qs)) 130) :: accs accR qs).map (·.1)) M → SrW w' 1 A n (iv .u8 l)) :
    Calls Try.prog 62 [.pointer (some ⟨b, 0, none⟩), AG (enV e), AG [(32, iv .u8 tag)], .int .i64 now].toArray w fun e' w' => ∃ r : List (Option PAcc), (QOK AOK (k + 1) r ∧ absO r = wsQ root ticks (absO qs) e n l tag now ∧ psO r = psO qs) ∧ e' = .returned (.tuple #[AG (stV (wsS root ticks (absO qs) e n l tag now)), .int .i64 (wsE (absO qs) e n l tag now)]) ∧ HP w w' (((b, .cells (rlS root ticks (psO qs)) 130) :: accs accR qs).map (·.1)) ((b, .cells (rlS root ticks (psO qs)) 130) :: accs accR r) := by
  have hs1 := hs0 w _ hp0
  have hq1 : QOK AOK (k + 1) qs := hq.mono (by omega)
  by_cases hh : heB e n = true
  · by_cases hok : e.fr = e.to ∨ now < 0 ∨ 1000000 < now
    · obtain ⟨e1, e2, e3⟩ := ws_bad (Q := absO qs) (l := l) (tag := tag) (root := root) (ticks := ticks) (k := n) (.inr hok)
      exact (frm0 hp0 (rsend20_bad2 b e A n cap l he hh tag htl htb now hok w hs1)).mono fun e' w' ⟨h4, h5⟩ => ⟨qs, ⟨hq1, e3.symm, rfl⟩, by rw [h4, e1, e2], h5⟩
    · have hno : ¬ (heB e n = false ∨ e.fr = e.to ∨ now < 0 ∨ 1000000 < now) := by rw [hh]; rintro (h | h); cases h; exact hok h
      have hA : AtW w b _ := HP.atw hp0 List.mem_cons_self
      cases h : ofP qs e.fr with
      | none =>
        obtain ⟨e1, e2, e3⟩ := ws_none (Q := absO qs) (l := l) (tag := tag) (root := root) (ticks := ticks) hno (.inl (by rw [ofP_absO, h]; rfl))
        exact (frm0 hp0 (rsend20_none1 root hrl hrb ticks hti b (psO qs) hq.p8 e A n cap l he hh tag htl htb now hok (by rw [ofP_psO, h]; rfl) w hA hs1)).mono fun e' w' ⟨h4, h5⟩ => ⟨qs, ⟨hq1, e3.symm, rfl⟩, by rw [h4, e1, e2], h5⟩
      | some a =>
        cases h3 : ofP qs e.to with
        | none =>
          obtain ⟨e1, e2, e3⟩ := ws_none (Q := absO qs) (l := l) (tag := tag) (root := root) (ticks := ticks) hno (.inr (by rw [ofP_absO, h3]; rfl))
          exact (frm0 hp0 (rsend20_none2 root hrl hrb ticks hti b (psO qs) hq.p8 e A n cap l he hh tag htl htb now hok a.p (by rw [ofP_psO, h]; rfl) (by rw [ofP_psO, h3]; rfl) w hA hs1)).mono fun e' w' ⟨h4, h5⟩ => ⟨qs, ⟨hq1, e3.symm, rfl⟩, by rw [h4, e1, e2], h5⟩
        | some c =>
          obtain ⟨⟨ha, hma⟩, hs, hn⟩ := hq.at_ h
          obtain ⟨⟨hc, hmc⟩, hs3, hn3⟩ := hq.at_ h3
          have h8 := hq.len
          have hij : e.fr.toNat ≠ e.to.toNat := by omega
          obtain ⟨e1, e2, e3⟩ := ws_two (Q := absO qs) (l := l) (tag := tag) (root := root) (ticks := ticks) hno (a := a.abs) (c := c.abs) (by rw [ofP_absO, h]; rfl) (by rw [ofP_absO, h3]; rfl)
          have hD : ((b, .cells (rlS root ticks (psO qs)) 130) :: accs accR qs).Perm (((b, .cells (rlS root ticks (psO qs)) 130) :: (accR a ++ accR c)) ++ accs accR ((qs.set e.fr.toNat none).set e.to.toNat none)) := List.Perm.cons _ (accs_two hij hs hs3)
          refine (frm hp0 (M0 := (b, .cells (rlS root ticks (psO qs)) 130) :: (accR a ++ accR c)) (Lr := accs accR ((qs.set e.fr.toNat none).set e.to.toNat none)) hD fun hp => rsend20_calls root hrl hrb ticks hti b (psO qs) hq.p8 e A n cap l he hh tag htl htb now hok a c ha hc (by rw [ofP_psO, h]; rfl) (by rw [ofP_psO, h3]; rfl) (by omega) w hp (fun w1 M h1 => hs0 w1 _ (hp0.transP hD h1))).mono fun e' w' ⟨⟨a', c'⟩, ⟨h4, h5, p1, p2, h6, h6c⟩, h7, h9⟩ => ⟨((qs.set e.fr.toNat (some a')).set e.to.toNat (some c')), ⟨(hq1.set _ h4 (Int.le_refl _) ?_).set _ h5 (Int.le_refl _) ?_, ?_, ?_⟩, by rw [h7, e1, e2], ?_⟩
          · rw [show a'.many = _ from congrArg AAcc.many h6, sndA_many]; show a.many ≤ k + 1; omega
          · rw [show c'.many = _ from congrArg AAcc.many h6c]; exact Int.le_trans sndC_many (by show c.many + 1 ≤ k + 1; omega)
          · rw [e3, absO_set, absO_set]; show ((absO qs).set _ (some a'.abs)).set _ (some c'.abs) = _; rw [h6, h6c]
          · rw [psO_set, psO_same hs p1]
            have h2 := psO_same hs3 p2
            rw [psO_set] at h2; exact h2
          · exact h9.perm (List.Perm.cons _ (accs_two' hij (by omega) (by omega)))
  · have hf : heB e n = false := by simpa using hh
    obtain ⟨e1, e2, e3⟩ := ws_bad (Q := absO qs) (l := l) (tag := tag) (root := root) (ticks := ticks) (now := now) (.inl hf)
    exact (frm0 hp0 (rsend20_bad1 b e A n cap l he hh tag htl htb now w)).mono fun e' w' ⟨h4, h5⟩ => ⟨qs, ⟨hq1, e3.symm, rfl⟩, by rw [h4, e1, e2], h5⟩

end Go.Proofs.Ytmeckbjinmgbbaa