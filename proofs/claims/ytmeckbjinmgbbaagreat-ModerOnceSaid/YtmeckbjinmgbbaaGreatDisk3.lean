/- Disks: Sync. -/
import Derived.Test.YtmeckbjinmgbbaaGreatDisk2
set_option linter.unusedVariables false
set_option linter.unusedSimpArgs false

namespace Go.Proofs.YtmeckbjinmgbbaaGreat
open Go.X
def app (ss : List (List Int)) (dn : List PEnt) : List (List Int) := dn.foldl (fun ss e => ss.set e.1.toNat e.2.1) ss
theorem app_snoc {ss : List (List Int)} {dn : List PEnt} {e : PEnt} : (app ss dn).set (sE e).1.toNat e.2.1 = app ss (dn ++ [e]) := by unfold app; rw [List.foldl_append]; rfl
theorem app_len : ∀ {dn : List PEnt} {ss : List (List Int)}, (app ss dn).length = ss.length
  | [], ss => rfl
  | e :: dn, ss => by
    show (app (ss.set e.1.toNat e.2.1) dn).length = _
    rw [app_len, List.length_set]
theorem app_all {p : List Int → Prop} : ∀ {dn : List PEnt} {ss : List (List Int)}, (∀ s ∈ ss, p s) → (∀ e ∈ dn, p e.2.1) → ∀ s ∈ app ss dn, p s
  | [], ss, h, _, s, hs => h s hs
  | e :: dn, ss, h, h2, s, hs => by
    refine app_all (dn := dn) (ss := ss.set e.1.toNat e.2.1) (fun x hx => ?_) (fun x hx => h2 x (List.mem_cons_of_mem _ hx)) s hs
    rcases List.mem_or_eq_of_mem_set hx with h3 | rfl
    · exact h x h3
    · exact h2 e List.mem_cons_self
theorem app_get {m : List PEnt} (hk : (m.map (·.1)).Nodup) (h0 : ∀ e ∈ m, 0 ≤ e.1) {i : Nat} : ∀ {dn : List PEnt} {ss : List (List Int)}, (∀ e ∈ dn, e ∈ m ∧ e.1.toNat < ss.length) →
    (app ss dn).getD i [] = if ∃ e ∈ dn, e.1 = (i : Int) then (pget m i).getD [] else ss.getD i []
  | [], ss, _ => by simp [app]
  | e :: dn, ss, h => by
    have ih := app_get hk h0 (i := i) (dn := dn) (ss := ss.set e.1.toNat e.2.1) (fun x hx => by rw [List.length_set]; exact h x (List.mem_cons_of_mem _ hx))
    show (app (ss.set e.1.toNat e.2.1) dn).getD i [] = _
    rw [ih]
    have he := h e List.mem_cons_self
    by_cases hi : e.1 = (i : Int)
    · have hg := pget_in hk he.1
      rw [hi] at hg
      have hset : (ss.set e.1.toNat e.2.1).getD i [] = e.2.1 := by
        rw [show e.1.toNat = i by omega, List.getD_eq_getElem?_getD, List.getElem?_set_self (by have := he.2; omega)]; rfl
      rw [if_pos (show ∃ x ∈ e :: dn, x.1 = (i : Int) from ⟨e, List.mem_cons_self, hi⟩), hset, hg]
      split <;> rfl
    · have hne : e.1.toNat ≠ i := by have := h0 e he.1; omega
      have hset : (ss.set e.1.toNat e.2.1).getD i [] = ss.getD i [] := by
        rw [List.getD_eq_getElem?_getD, List.getD_eq_getElem?_getD, List.getElem?_set_ne hne]
      rw [hset]
      have hiff : (∃ x ∈ e :: dn, x.1 = (i : Int)) ↔ ∃ x ∈ dn, x.1 = (i : Int) := by
        simp [hi]
      simp only [hiff]
theorem app_merged {E : DS} (hok : DOK E) {dn : List PEnt} (h1 : ∀ e ∈ dn, e ∈ E.m) (h2 : ∀ e ∈ E.m, e ∈ dn) : app E.sure dn = merged E := by
  have h0 : ∀ e ∈ E.m, 0 ≤ e.1 := fun e he => (hok.ents e he).1.1
  have hlt : ∀ e ∈ dn, e ∈ E.m ∧ e.1.toNat < E.sure.length := fun e he => ⟨h1 e he, by have := (hok.ents e (h1 e he)).1; have := hok.len; omega⟩
  have hl : (app E.sure dn).length = (merged E).length := by rw [app_len, hok.len]; simp [merged]
  apply List.ext_getElem hl
  intro i hi1 hi2
  have hin : i < E.n := by rw [app_len, hok.len] at hi1; exact hi1
  have e1 : (app E.sure dn).getD i [] = (app E.sure dn)[i] := by rw [List.getD_eq_getElem?_getD, List.getElem?_eq_getElem hi1]; rfl
  have e2 : (merged E).getD i [] = (merged E)[i] := by rw [List.getD_eq_getElem?_getD, List.getElem?_eq_getElem hi2]; rfl
  rw [← e1, ← e2, app_get hok.keys h0 hlt, merged_get hin]
  unfold cur
  cases hq : pget E.m i with
  | none =>
    rw [if_neg]
    · rfl
    · rintro ⟨e, he, hei⟩
      exact pget_none hq e (h1 e he) hei
  | some s =>
    obtain ⟨n, hn⟩ := pget_mem hq
    rw [if_pos ⟨_, h2 _ hn, rfl⟩]; rfl
theorem seen_push {dn : List PEnt} {e : PEnt} : ((dn.map (·.2.2)).toArray.push (sE e).2.2) = ((dn ++ [e]).map (·.2.2)).toArray := by simp [sE]
theorem filter_less {α : Type} {p q : α → Bool} : ∀ {m : List α} {e : α}, (∀ x, q x = true → p x = true) → e ∈ m → p e = true → q e = false → (m.filter q).length < (m.filter p).length
  | a :: m, e, h, he, hp, hq => by
    have hle : ∀ l : List α, (l.filter q).length ≤ (l.filter p).length := fun l => by
      induction l with
      | nil => simp
      | cons b l ih =>
        by_cases hb : q b = true
        · rw [List.filter_cons_of_pos hb, List.filter_cons_of_pos (h b hb)]; simpa using ih
        · rw [List.filter_cons_of_neg hb]
          by_cases hb2 : p b = true
          · rw [List.filter_cons_of_pos hb2]; simp; omega
          · rw [List.filter_cons_of_neg hb2]; exact ih
    rcases List.mem_cons.1 he with rfl | he
    · rw [List.filter_cons_of_pos hp, List.filter_cons_of_neg (by simp [hq])]
      have := hle m
      simp; omega
    · have ih := filter_less h he hp hq
      by_cases hb : q a = true
      · rw [List.filter_cons_of_pos hb, List.filter_cons_of_pos (h a hb)]; simpa using ih
      · rw [List.filter_cons_of_neg hb]
        by_cases hb2 : p a = true
        · rw [List.filter_cons_of_pos hb2]; simp; omega
        · rw [List.filter_cons_of_neg hb2]; exact ih
/-- How many entries have not come yet. -/
def leftN (m dn : List PEnt) : Nat := (m.filter fun e => !((dn.map (·.2.2)).toArray.contains e.2.2)).length
theorem left_less {m dn : List PEnt} {e : PEnt} (he : e ∈ m) (hs : (dn.map (·.2.2)).toArray.contains e.2.2 = false) : leftN m (dn ++ [e]) < leftN m dn := by
  unfold leftN
  refine filter_less (e := e) (fun x hx => ?_) he (by rw [hs]; rfl) (by simp)
  simp only [Bool.not_eq_true', List.contains_toArray] at hx ⊢
  simp at hx ⊢
  exact hx.1
theorem all_seen {m dn : List PEnt} (hb : (m.map (·.2.2)).Nodup) (h1 : ∀ e ∈ dn, e ∈ m) (h : ∀ e ∈ m.map sE, (dn.map (·.2.2)).toArray.contains e.2.2 = true) : ∀ e ∈ m, e ∈ dn := fun e he => by
  have := h (sE e) (List.mem_map.2 ⟨e, he, rfl⟩)
  simp only [List.contains_toArray, List.contains_iff_mem] at this
  obtain ⟨e', he', hq⟩ := List.mem_map.1 this
  have hq2 : e'.2.2 = e.2.2 := hq
  have heq : e' = e := by
    have key : ∀ {m : List PEnt}, (m.map (·.2.2)).Nodup → ∀ a ∈ m, ∀ b ∈ m, a.2.2 = b.2.2 → a = b := by
      intro m
      induction m with
      | nil => intro _ a ha; cases ha
      | cons x m ih =>
        intro hn a ha b hb hab
        simp only [List.map_cons, List.nodup_cons] at hn
        rcases List.mem_cons.1 ha with h1 | h1 <;> rcases List.mem_cons.1 hb with h2 | h2
        · rw [h1, h2]
        · rw [h1] at hab; exact (hn.1 (List.mem_map.2 ⟨b, h2, hab.symm⟩)).elim
        · rw [h2] at hab; exact (hn.1 (List.mem_map.2 ⟨a, h1, hab⟩)).elim
        · exact ih hn.2 a h1 b h2 hab
    exact key hb e' (h1 e' he') e he hq2
  rwa [← heq]
theorem sy_dead {D : DS} (h : burnE D ≠ 0) : syD D = burnD D := if_neg h
theorem sy_ok {D : DS} (h : burnE D = 0) : syD D = flush (burnD D) := if_pos h

theorem sync21_calls (K : DK) (D : DS) (hok : DOK D) (w : World) (hd : HP w w [K.d, K.s, K.m] [(K.d, .cells [(1, [.slice (some ⟨K.s, 0, none⟩) D.n D.n]), (1, [.map (some K.m)]), (1, [.int .i64 D.fuse]), (1, [.bool D.dead])] 74), (K.s, .cells [(D.n * 64, iv .u8 D.sure.flatten)] 115), (K.m, .obj (mapO .i64 (D.m.map sE) D.ck))]) :
    Calls Tryz.prog 135 [.pointer (some ⟨K.d, 0, none⟩)].toArray w fun e w' => e = .returned (.int .i64 (burnE D)) ∧ HP w w' [K.d, K.s, K.m] [(K.d, .cells [(1, [.slice (some ⟨K.s, 0, none⟩) (syD D).n (syD D).n]), (1, [.map (some K.m)]), (1, [.int .i64 (syD D).fuse]), (1, [.bool (syD D).dead])] 74), (K.s, .cells [((syD D).n * 64, iv .u8 (syD D).sure.flatten)] 115), (K.m, .obj (mapO .i64 ((syD D).m.map sE) (syD D).ck))] := by
 have hn1 := hok.n1
 have hn64 := hok.n64
 have hfu := hok.fuse
 have hlen := hok.len
 refine calls_of_W Tryz.func135 rfl Tryz.ntmps135 rfl rfl hd ?_
 refine sr ?_
 refine oas ?_
 refine nq ?_
 refine W.seq ?_
 refine sr ?_
 refine omv ?_
 refine cms rfl (fun w hp => burn21_calls K D hok w (HP.here hp cov)) ?_
 refine oas ?_
 refine nx ?_
 refine omv ?_
 refine ov (v2 V_neq) ?_
 refine nq ?_
 refine W.cond_dec rfl (fun g1 => ?_) (fun g1 => ?_)
 · refine W.seq ?_
   refine W.region ?_
   refine omv ?_
   refine oas ?_
   refine nq ?_
   refine W.ret ?_
   refine WQ.then_ret ?_
   refine WQ.ret1 Tryz.results135 (.tmp rfl) ?_
   intro w' hp; rw [sy_dead (by simpa using g1)]; exact ⟨rfl, hp.cov cov⟩
 · refine W.skip ?_
   refine WQ.then ?_
   refine W.seq ?_
   refine W.seq ?_
   have hokE := burnD_ok hok
   have hb0 : burnE D = 0 := by simpa using g1
   have hsyE := sy_ok hb0
   rw [hsyE, hb0]
   generalize burnD D = E at hokE ⊢
   have hElen := hokE.len
   have hold : ∀ e ∈ E.m.map sE, e.2.2 < E.ck := by
     intro e he
     obtain ⟨pe, hpe, rfl⟩ := List.mem_map.1 he
     exact (hokE.ents pe hpe).2.2
   have hborn : ((E.m.map sE).map (·.2.2)).Nodup := by rw [List.map_map]; exact hokE.borns
   refine W.region ?_
   refine omv ?_
   refine ov vnil ?_
   refine ov (vfa0 1 1) ?_
   refine ov vld ?_
   refine orng (fun b15 => ?_)
   refine nq ?_
   refine W.block ?_
   -- LOOP 0
   refine W.pick (S' := [(0, _), (2, _), (3, _), (9, _), (15, _)]) [0, 2, 3, 9, 15] rfl ?_
   refine W.loopG (σ := List PEnt) (fun dn => ∀ e ∈ dn, e ∈ E.m) (fun dn => []) (fun dn => [(K.s, .cells [(E.n * 64, iv .u8 (app E.sure dn).flatten)] 115), (b15, .obj (.mapIter (some K.m) E.ck (dn.map (·.2.2)).toArray E.ck))]) [(K.d, _), (K.m, _)] (fun dn => []) (fun dn => leftN E.m dn) [] rfl cov (fun e he => by cases he) ?_
   rintro dn hdn
   refine sr ?_
   refine onext (fun h16 => ?_) (fun e16 m16 n16 => ?_)
   · refine ov vex ?_
     refine nq ?_
     refine W.seq ?_
     refine W.cond_false rfl rfl ?_
     refine W.exit ?_
     refine WQ.then_exit ?_
     refine WQ.then_exit ?_
     refine WQ.block_hit ?_
     refine WQ.then ?_
     refine W.seq ?_
     rw [app_merged hokE hdn (all_seen hokE.borns hdn h16)]
     refine W.region ?_
     refine omv ?_
     refine ov vnil ?_
     refine ov (vfa0 1 1) ?_
     refine ov vld ?_
     refine oclr ?_
     refine nx ?_
     refine oas ?_
     refine nq ?_
     refine W.ret ?_
     refine WQ.ret1 Tryz.results135 (.tmp rfl) ?_
     intro w' hp; exact ⟨rfl, hp.cov cov⟩
   · refine ov vex ?_
     refine nq ?_
     refine W.seq ?_
     refine W.cond_true rfl rfl ?_
     refine W.skip ?_
     refine WQ.then ?_
     refine W.block ?_
     refine W.seq ?_
     obtain ⟨pe, hpe, rfl⟩ := List.mem_map.1 m16
     have hpE := hokE.ents pe hpe
     have hpl : pe.2.1.length = 64 := hpE.2.1.1
     have hpb : 0 ≤ (sE pe).1 ∧ (sE pe).1 < E.n := hpE.1
     have hal := app_len (dn := dn) (ss := E.sure)
     have hq64 : ∀ l ∈ app E.sure dn, l.length = 64 := app_all hokE.l64 fun e he => (hokE.ents e (hdn e he)).2.1.1
     refine W.region ?_
     refine ov (vent m16) ?_
     refine ov vex ?_
     refine ov vex ?_
     refine oal [(64, List.replicate 64 (.int .u8 0))] (fun b5 => ?_)
     refine oas ?_
     refine osta 64 ?_
     refine nq ?_
     refine dr (.q 0 (.q 1 (.q 2 (.q 3 (.q 4 (.q 5 (.q 6 (.l 7 (.done))))))))) [(b5, _), (K.d, _)] ?_
     refine dq rfl (V_move rfl) ?_
     refine dq rfl vnil ?_
     refine dq rfl (vfa0 0 1) ?_
     refine dq rfl vld ?_
     refine dq rfl (V_move rfl) ?_
     refine dq rfl (vlda 64) ?_
     refine dq rfl (viSecZ 64) ?_
     refine WD.l ?_
     refine dstSec 64 hq64 rfl ?_
     refine WD.done ?_
     refine WQ.block_normal ?_
     rw [seen_push, app_snoc]
     exact ag (dn ++ [pe]) [0, 2, 3, 9, 15] (by intro e he; rcases List.mem_append.1 he with he | he; exact hdn e he; rw [List.mem_singleton.1 he]; exact hpe) (left_less hpe n16) rfl cov

end Go.Proofs.YtmeckbjinmgbbaaGreat