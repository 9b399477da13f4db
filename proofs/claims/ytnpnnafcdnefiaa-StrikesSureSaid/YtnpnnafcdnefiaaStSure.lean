/- StrikesSure: its walk. -/
import Derived.Test.YtnpnnafcdnefiaaStk6
import Derived.Test.YtnpnnafcdnefiaaSureP
import Derived.Test.YtnpnnafcdnefiaaXC
set_option linter.unusedVariables false
set_option linter.unusedSimpArgs false

namespace Go.Proofs.Ytnpnnafcdnefiaa
open Go.X
abbrev BM := List (KEnt Bool)
def bE : KEnt Bool → Ent := gE Value.bool
theorem wfu23 {n : Int} (h : (Lit.int .u64 n).wf = true) : 0 ≤ n ∧ n ≤ 18446744073709551615 := by
  simp [Lit.wf, IntKind.min, IntKind.max, IntKind.signed, IntKind.bits] at h
  omega
theorem apS {D : DS} {ll : List (List Int)} {u : Option (List Int)} {b : List Int} (h : Rn D ll u) (hb : b.length ≤ 59 ∧ bytes b) (hl : ll.length < 64) :
    (apE D ll.length b = 0 ∧ u = none ∧ Rn (apD D ll.length b) (ll ++ [b]) none) ∨ (apE D ll.length b = 13 ∧ Rn (apD D ll.length b) ll (some (u.getD b))) := h.ap hb hl
abbrev Uq := Option (Int × Int)
def uR (u : Uq) : Option (List Int) := u.map fun p => recS 1 p.1 p.2 5
structure Ss (D : DS) (g : GR) (S : LS) (m : BM) (u : Uq) (un : Int) (i : Nat) : Prop where
  rn : Rn D g.ll (uR u)
  gok : g.OK
  op : S = opS g.ll
  keys : m.map (·.1) = S.m.map (·.1)
  tr : ∀ e ∈ m, e.2.1 = true
  ents : ∀ e ∈ S.m, (0 ≤ e.2.1.a ∧ e.2.1.a < 8) ∧ e.2.1.t = 5 ∧ e.2.1.c = false
  len : g.rs.length ≤ i
  sl : S.m.length ≤ i
  un : (u = none ∧ un = -1) ∨ ∃ a id, u = some (a, id) ∧ un = id ∧ (0 ≤ a ∧ a < 8) ∧ (0 ≤ id ∧ id ≤ 1000000) ∧ S.get id = none
theorem Ss.ok {D : DS} {g : GR} {S : LS} {m : BM} {u : Uq} {un : Int} {i : Nat} (h : Ss D g S m u un i) : DOK D := h.rn.ok
theorem Ss.gn {D : DS} {g : GR} {S : LS} {m : BM} {u : Uq} {un : Int} {i : Nat} (h : Ss D g S m u un i) : g.rs.length ≤ D.n := by
  rw [← GR.ll_len]; exact h.rn.base.held.len
theorem Ss.ls {D : DS} {g : GR} {S : LS} {m : BM} {u : Uq} {un : Int} {i : Nat} (h : Ss D g S m u un i) : LOK S := by rw [h.op]; exact opS_ok (GR.lbytes h.gok)
theorem kget_key {α β : Type} {id : Int} : ∀ {m : List (KEnt α)} {n : List (KEnt β)}, m.map (·.1) = n.map (·.1) → (kget m id).isSome = (kget n id).isSome
  | [], [], _ => rfl
  | [], _ :: _, h => by cases h
  | _ :: _, [], h => by cases h
  | e :: m, f :: n, h => by
    simp only [List.map_cons, List.cons.injEq] at h
    rw [kget_cons, kget_cons, h.1]
    split
    · rfl
    · exact kget_key h.2
theorem Ss.told {D : DS} {g : GR} {S : LS} {m : BM} {u : Uq} {un : Int} {i : Nat} (h : Ss D g S m u un i) {id : Int} : kget m id = (S.get id).map fun _ => true := by
  have hk := kget_key (id := id) h.keys
  cases hq : kget m id with
  | none => rw [hq] at hk; cases hs : S.get id with
    | none => rfl
    | some s => rw [show kget S.m id = some s from hs] at hk; cases hk
  | some b => rw [hq] at hk; cases hs : S.get id with
    | none => rw [show kget S.m id = none from hs] at hk; cases hk
    | some s =>
      obtain ⟨n, hn⟩ := kget_mem hq
      rw [show b = true from h.tr _ hn]; rfl
theorem bget {m : BM} {id : Int} {o : Option Bool} (h : kget m id = o) : (mget (m.map bE) id).getD (.bool false) = .bool (o.getD false) := by
  unfold bE; rw [mget_gE, h]; cases o <;> rfl
theorem Ss.mlen {D : DS} {g : GR} {S : LS} {m : BM} {u : Uq} {un : Int} {i : Nat} (h : Ss D g S m u un i) : m.length = S.m.length := by
  have := congrArg List.length h.keys; simpa using this
theorem bput {m : BM} {ck : Nat} {id : Int} {b : Bool} : mput (m.map bE) ck id (.bool b) = (kput m ck id b).map bE := mput_gE (f := Value.bool)
theorem bclk {m : BM} {ck : Nat} {id : Int} : mclk (m.map bE) ck id = kck m ck id := mclk_gE (f := Value.bool)
theorem and7 {i : Nat} (h : i < 40) : 0 ≤ andI .i64 (i : Int) 7 ∧ andI .i64 (i : Int) 7 < 8 := by
  have key : ∀ i : Fin 40, 0 ≤ andI .i64 ((i : Nat) : Int) 7 ∧ andI .i64 ((i : Nat) : Int) 7 < 8 := by decide +kernel
  exact key ⟨i, h⟩
/-- A strike asked for. -/
theorem Ss.step {D : DS} {g r : GR} {S : LS} {m : BM} {u : Uq} {un : Int} {i ck : Nat} {a id : Int} (h : Ss D g S m u un i) (hi : i < 40) (ha : 0 ≤ a ∧ a < 8) (hr : r.OK ∧ r.ll = goL D g.ll (adQ S a id 5)) :
    (goE D g.rs.length (adQ S a id 5) = 0 → S.get id = none ∧ Ss (goD D g.rs.length (adQ S a id 5)) r (goS D g.rs.length S (adQ S a id 5)) (kput m ck id true) u un (i + 1)) ∧
    (goE D g.rs.length (adQ S a id 5) = 13 → un < 0 → ∃ u', Ss (goD D g.rs.length (adQ S a id 5)) r (goS D g.rs.length S (adQ S a id 5)) m u' id (i + 1)) ∧
    (goE D g.rs.length (adQ S a id 5) = 13 → ¬ un < 0 → Ss (goD D g.rs.length (adQ S a id 5)) r (goS D g.rs.length S (adQ S a id 5)) m u un (i + 1)) ∧
    (¬ goE D g.rs.length (adQ S a id 5) = 0 → ¬ goE D g.rs.length (adQ S a id 5) = 13 → Ss (goD D g.rs.length (adQ S a id 5)) r (goS D g.rs.length S (adQ S a id 5)) m u un (i + 1)) := by
  have hl := h.len
  have hsl := h.sl
  by_cases ho : adOK a id 5 = true
  · obtain ⟨_, hti, _⟩ := adOK_of ho
    have hid := tmB_of hti
    cases hq : S.get id with
    | some s =>
      rw [adQ_old ho hq] at hr ⊢
      have e : r.ll = g.ll := hr.2
      have hS : Ss D r S m u un (i + 1) := ⟨by rw [e]; exact h.rn, hr.1, by rw [e]; exact h.op, h.keys, h.tr, h.ents, by rw [← GR.ll_len, e, GR.ll_len]; omega, by omega, h.un⟩
      exact ⟨fun h => absurd h (by show ¬ (9 : Int) = 0; decide), fun h => absurd h (by show ¬ (9 : Int) = 13; decide), fun h => absurd h (by show ¬ (9 : Int) = 13; decide), fun _ _ => hS⟩
    | none =>
      rw [adQ_new ho hq] at hr ⊢
      have hb := recS_bytes (k := 1) (a := a) (id := id) (now := 5) ⟨by omega, by omega⟩ ⟨by omega, by omega⟩
      have hap := h.rn.ap (b := recS 1 a id 5) ⟨by rw [recS_len]; omega, hb⟩ (by rw [GR.ll_len]; omega)
      rw [GR.ll_len] at hap
      have hm : kget m id = none := by rw [h.told, hq]; rfl
      rcases hap with ⟨h0, hu, hR⟩ | ⟨h13, hR⟩
      · have e : r.ll = g.ll ++ [recS 1 a id 5] := by rw [hr.2]; show apL D g.ll _ = _; unfold apL; rw [GR.ll_len, if_pos h0]
        have hu0 : u = none := by cases u with | none => rfl | some p => cases hu
        have hS' : goS D g.rs.length S (.inr (recS 1 a id 5)) = S.put id ⟨a, 5, false⟩ := by rw [goS_yes h0, tk_rec1 ha.2 hid ⟨by omega, by omega⟩ hq]
        have hop : S.put id ⟨a, 5, false⟩ = opS r.ll := by rw [e, opS_snoc, ← h.op, tk_rec1 ha.2 hid ⟨by omega, by omega⟩ hq]
        rw [hS']
        refine ⟨fun _ => ⟨rfl, ?_⟩, fun k => absurd (h0.symm.trans k) (by decide), fun k => absurd (h0.symm.trans k) (by decide), fun k => absurd h0 k⟩
        refine ⟨by rw [e, hu0]; exact hR, hr.1, hop, ?_, fun x hx => ?_, fun x hx => ?_, ?_, ?_, ?_⟩
        · show _ = (kput S.m S.ck _ _).map _
          rw [kput_new hm, kput_new hq, List.map_append, List.map_append, h.keys]; rfl
        · rcases kput_mem hx with hx | ⟨_, h2, _⟩
          · exact h.tr x hx
          · exact h2
        · rcases kput_mem hx with hx | ⟨_, h2, _⟩
          · exact h.ents x hx
          · rw [h2]; exact ⟨ha, rfl, rfl⟩
        · rw [← GR.ll_len, e, List.length_append, GR.ll_len, List.length_singleton]; omega
        · have := put_len (S := S) (i := id) (s := ⟨a, 5, false⟩); omega
        · rcases h.un with hun | ⟨a', id', hun, _⟩
          · exact .inl hun
          · rw [hu0] at hun; cases hun
      · have hne : ¬ apE D g.rs.length (recS 1 a id 5) = 0 := by rw [h13]; decide
        have e : r.ll = g.ll := by rw [hr.2]; show apL D g.ll _ = _; unfold apL; rw [GR.ll_len, if_neg hne]
        have hlr : r.rs.length ≤ i + 1 := by rw [← GR.ll_len, e, GR.ll_len]; omega
        rw [goS_no hne]
        refine ⟨fun k => absurd k hne, fun _ hun => ?_, fun _ hun => ?_, fun _ k => absurd h13 k⟩
        · have hu0 : u = none := by
            rcases h.un with ⟨k, _⟩ | ⟨_, id', _, k2, _, k3, _⟩
            · exact k
            · omega
          refine ⟨some (a, id), by rw [e]; subst hu0; exact hR, hr.1, by rw [e]; exact h.op, h.keys, h.tr, h.ents, hlr, by omega, .inr ⟨a, id, rfl, rfl, ha, hid, hq⟩⟩
        · rcases h.un with ⟨_, k⟩ | ⟨a', id', k1, k2, k3⟩
          · omega
          · exact ⟨by rw [e]; subst k1; exact hR, hr.1, by rw [e]; exact h.op, h.keys, h.tr, h.ents, hlr, by omega, .inr ⟨a', id', k1, k2, k3⟩⟩
  · rw [adQ_bad ho] at hr ⊢
    have e : r.ll = g.ll := hr.2
    have hS : Ss D r S m u un (i + 1) := ⟨by rw [e]; exact h.rn, hr.1, by rw [e]; exact h.op, h.keys, h.tr, h.ents, by rw [← GR.ll_len, e, GR.ll_len]; omega, by omega, h.un⟩
    exact ⟨fun h => absurd h (by show ¬ (1 : Int) = 0; decide), fun h => absurd h (by show ¬ (1 : Int) = 13; decide), fun h => absurd h (by show ¬ (1 : Int) = 13; decide), fun _ _ => hS⟩
/-- Behind the crash. -/
structure Tf (S T : LS) (un : Int) : Prop where
  get : ∀ id s, S.get id = some s → ∃ t, T.get id = some t
  new : ∀ id t, T.get id = some t → (∃ s, S.get id = some s) ∨ id = un
  ents : ∀ e ∈ T.m, (0 ≤ e.2.1.a ∧ e.2.1.a < 8) ∧ e.2.1.t = 5 ∧ e.2.1.c = false
  len : T.m.length = S.m.length + if 0 ≤ un ∧ (T.get un).isSome = true then 1 else 0
theorem Ss.tf {D : DS} {g : GR} {S : LS} {m : BM} {u : Uq} {un : Int} {i : Nat} (h : Ss D g S m u un i) (kept : Int) : Tf S (opS (opL (crD D kept))) un := by
  have hneg : ∀ k : Int, k < 0 → S.get k = none := fun k hk => by
    cases hq : S.get k with
    | none => rfl
    | some s => have := (h.ls.get hq).1; omega
  have hnew : S.get un = none := by
    rcases h.un with ⟨_, k⟩ | ⟨a, id, _, k, _, _, k2⟩
    · exact hneg un (by omega)
    · rw [k]; exact k2
  rcases h.rn.crash kept with k | ⟨b, hb, k⟩
  · rw [k.op, ← h.op]
    exact ⟨fun id s hs => ⟨s, hs⟩, fun id t ht => .inl ⟨t, ht⟩, h.ents, by rw [hnew, if_neg (by simp)]; rfl⟩
  · rw [k.op, opS_snoc, ← h.op]
    rcases h.un with ⟨k1, _⟩ | ⟨a, id, k1, k2, ha, hid, hq⟩
    · rw [k1] at hb; cases hb
    · rw [k1] at hb
      have hb2 : recS 1 a id 5 = b := by injection hb
      subst hb2
      rw [tk_rec1 ha.2 hid ⟨by omega, by omega⟩ hq, k2]
      refine ⟨fun i s hs => ?_, fun i t ht => ?_, fun x hx => ?_, ?_⟩
      · rw [LS.get_put]; split
        · exact ⟨_, rfl⟩
        · exact ⟨s, hs⟩
      · rw [LS.get_put] at ht; split at ht
        · rename_i e; exact .inr e.symm
        · exact .inl ⟨t, ht⟩
      · rcases kput_mem hx with hx | ⟨_, h2, _⟩
        · exact h.ents x hx
        · rw [h2]; exact ⟨ha, rfl, rfl⟩
      · rw [LS.get_put, if_pos rfl, if_pos ⟨hid.1, rfl⟩]
        show (kput S.m S.ck _ _).length = _
        rw [kput_new hq]; simp
theorem Ss.lv {D : DS} {g r : GR} {S : LS} {m : BM} {u : Uq} {un : Int} {i : Nat} (h : Ss D g S m u un i) (kept : Int) (hr : r.OK ∧ r.ll = opL (crD D kept)) : LV (crD D kept) r (opS (opL (crD D kept))) 64 ∧ (opS (opL (crD D kept))).m.length ≤ 64 := by
  have hl := opL_len (D := crD D kept)
  have hn : (crD D kept).n = 64 := h.rn.n
  have hm := opS_m (ll := opL (crD D kept))
  refine ⟨⟨crD_ok h.ok, Live.cr, hn, hr.1, opS_ok fun l hl => (opL_ok (crD_ok h.ok) l hl).2, by omega, ?_⟩, by omega⟩
  rw [← GR.ll_len, hr.2]; omega
theorem Ss.new {g : GR} {k : Int} (hk : 0 ≤ k ∧ k ≤ 9223372036854775807) (hg : g.OK) (hl : g.ll = opL (newD 64)) : Ss (fuD (newD 64) k) g ⟨[], 0⟩ [] none (-1) 0 := by
  have e : opL (newD 64) = [] := Full.new.all (by decide)
  rw [e] at hl
  refine ⟨?_, hg, by rw [hl]; rfl, rfl, (fun e h => by cases h), (fun e h => by cases h), by rw [← GR.ll_len, hl]; exact Nat.le_refl _, Nat.le_refl _, .inl ⟨rfl, rfl⟩⟩
  rw [hl]
  exact Rn.start (newD_ok (by omega) (by omega)) rfl rfl ⟨.nil, fun i h hi => (Full.new (n := 64)).rest i h hi⟩ rfl hk
def sumC (T : LS) (q : Nat) : Nat := ((List.range q).map fun (n : Nat) => cnt T.m n 5).sum
theorem sumC_succ {T : LS} {q : Nat} : sumC T (q + 1) = sumC T q + cnt T.m (q : Nat) 5 := by simp [sumC, List.range_succ]
theorem sumC_all {T : LS} (h : ∀ e ∈ T.m, (0 ≤ e.2.1.a ∧ e.2.1.a < 8) ∧ e.2.1.t = 5 ∧ e.2.1.c = false) : sumC T 8 = T.m.length := by
  obtain ⟨m, ck⟩ := T
  dsimp only at h ⊢
  have e : sumC ⟨m, ck⟩ 8 = cnt m 0 5 + cnt m 1 5 + cnt m 2 5 + cnt m 3 5 + cnt m 4 5 + cnt m 5 5 + cnt m 6 5 + cnt m 7 5 := by
    simp [sumC, List.range_succ]; omega
  rw [e]; clear e
  induction m with
  | nil => rfl
  | cons x m ih =>
    have ih := ih fun y hy => h y (List.mem_cons_of_mem _ hy)
    obtain ⟨⟨ha, hb⟩, ht, hc⟩ := h x List.mem_cons_self
    have hk : ∀ a : Int, (cnB a 5 x.2.1 = true) ↔ x.2.1.a = a := fun a => by simp [cnB, hc, ht]
    rw [cnt_cons, cnt_cons, cnt_cons, cnt_cons, cnt_cons, cnt_cons, cnt_cons, cnt_cons]
    simp only [hk]
    have : x.2.1.a = 0 ∨ x.2.1.a = 1 ∨ x.2.1.a = 2 ∨ x.2.1.a = 3 ∨ x.2.1.a = 4 ∨ x.2.1.a = 5 ∨ x.2.1.a = 6 ∨ x.2.1.a = 7 := by omega
    rcases this with e0 | e0 | e0 | e0 | e0 | e0 | e0 | e0 <;> rw [e0] <;> simp <;> omega

set_option maxHeartbeats 4000000 in
theorem strikesSure_calls (A : Option Addr) (n cap : Nat) (l : List Int) (fuse kept : Int) (w : World) (hs : SrW w 1 A n (iv .i64 l)) (hlb : ∀ x ∈ l, -9223372036854775808 ≤ x ∧ x ≤ 9223372036854775807) (hfb : -9223372036854775808 ≤ fuse ∧ fuse ≤ 9223372036854775807) (hkb : 0 ≤ kept ∧ kept ≤ 18446744073709551615) :
    Calls Try.prog 13 [.slice A n cap, .int .i64 fuse, .int .u64 kept].toArray w fun e w' => e = .returned (.bool true) ∧ HP w w' [] [] := by
 have k0 := newD_ok (n := 64) (by omega) (by omega)
 have hl := SrW.ilen hs
 refine calls_of_W Try.func13 rfl Try.ntmps13 rfl rfl (HP.refl w []) ?_
 refine sr ?_
 refine oas ?_
 refine nx ?_
 refine cp rfl (fun w hp => awake23_calls w) ?_
 refine oas ?_
 refine nx ?_
 refine cg rfl (fun w hp => new21_calls 64 (by omega) (by omega) w) (fun b30 h30 => ?_)
 refine omv ?_
 refine ov vex ?_
 refine ov vex ?_
 refine oas ?_
 refine oas ?_
 refine nx ?_
 refine omv ?_
 refine cgP _ rfl (fun w hp => begun23_calls b30 (newD 64) k0 w (HP.here hp cov)) (fun r35 h35 => ?_)
 simp only [List.cons_append, List.nil_append, List.append_nil, List.append_assoc]
 refine WL.back (gRL 5 31 r35.2.2.2) ?_
 simp only [List.cons_append, List.nil_append, List.append_nil, List.append_assoc]
 refine omv ?_
 refine ov vex ?_
 refine ov vex ?_
 refine oas ?_
 refine oas ?_
 refine nq ?_
 refine W.seq ?_
 refine W.seq ?_
 by_cases c1 : 40 < n
 · by_cases c2 : fuse < 0
   · obtain ⟨hv0, hS0, hn0⟩ := LV.new (n := 64) (by omega) (by omega) h35.1 h35.2
     rw [hS0] at hv0 ⊢
     refine W.region ?_
     refine omv ?_
     refine ov (V_eqlP (by kernel_rfl) rfl rfl) ?_
     refine omv ?_
     refine oy rfl rfl ?_
     refine omv ?_
     refine oy rfl rfl ?_
     refine ov vlenS ?_
     refine oy rfl rfl ?_
     refine ov (v2 V_gtr) ?_
     refine ov (V_pick_f rfl rfl rfl) ?_
     refine omv ?_
     refine on rfl (decide_eq_true (by omega)) ?_
     refine on rfl (decide_eq_true (by omega)) ?_
     refine ov (V_pick_t rfl (decide_eq_true (by omega)) rfl) ?_
     refine nq ?_
     refine W.cond_true rfl rfl ?_
     refine sr ?_
     refine omv ?_
     refine omv ?_
     refine oy rfl rfl ?_
     refine omv ?_
     refine oy rfl rfl ?_
     refine ov (V_neqP (by kernel_rfl) rfl rfl) ?_
     refine ov (V_pick_t rfl rfl rfl) ?_
     refine oas ?_
     refine nq ?_
     refine W.ret ?_
     refine WQ.then_ret ?_
     refine WQ.ret1 Try.results13 (.tmp rfl) ?_
     intro w' hp; exact ⟨by first | rfl | exact congrArg (fun b => Ending.returned (.bool b)) (decide_eq_true (by omega)) | (simp; done), hp.forget⟩
   · obtain ⟨hv0, hS0, hn0⟩ := LV.new (n := 64) (by omega) (by omega) h35.1 h35.2
     rw [hS0] at hv0 ⊢
     refine W.region ?_
     refine omv ?_
     refine ov (V_eqlP (by kernel_rfl) rfl rfl) ?_
     refine omv ?_
     refine oy rfl rfl ?_
     refine omv ?_
     refine oy rfl rfl ?_
     refine ov vlenS ?_
     refine oy rfl rfl ?_
     refine ov (v2 V_gtr) ?_
     refine ov (V_pick_f rfl rfl rfl) ?_
     refine omv ?_
     refine on rfl (decide_eq_true (by omega)) ?_
     refine on rfl (decide_eq_true (by omega)) ?_
     refine ov (V_pick_t rfl (decide_eq_true (by omega)) rfl) ?_
     refine nq ?_
     refine W.cond_true rfl rfl ?_
     refine sr ?_
     refine omv ?_
     refine omv ?_
     refine oy rfl rfl ?_
     refine omv ?_
     refine oy rfl rfl ?_
     refine ov (V_neqP (by kernel_rfl) rfl rfl) ?_
     refine ov (V_pick_t rfl rfl rfl) ?_
     refine oas ?_
     refine nq ?_
     refine W.ret ?_
     refine WQ.then_ret ?_
     refine WQ.ret1 Try.results13 (.tmp rfl) ?_
     intro w' hp; exact ⟨by first | rfl | exact congrArg (fun b => Ending.returned (.bool b)) (decide_eq_true (by omega)) | (simp; done), hp.forget⟩
 · by_cases c2 : fuse < 0
   · obtain ⟨hv0, hS0, hn0⟩ := LV.new (n := 64) (by omega) (by omega) h35.1 h35.2
     rw [hS0] at hv0 ⊢
     refine W.region ?_
     refine omv ?_
     refine ov (V_eqlP (by kernel_rfl) rfl rfl) ?_
     refine omv ?_
     refine oy rfl rfl ?_
     refine omv ?_
     refine oy rfl rfl ?_
     refine ov vlenS ?_
     refine oy rfl rfl ?_
     refine ov (v2 V_gtr) ?_
     refine ov (V_pick_f rfl rfl rfl) ?_
     refine omv ?_
     refine oy rfl (decide_eq_false (by omega)) ?_
     refine omv ?_
     refine oy rfl (decide_eq_false (by omega)) ?_
     refine ov (v2 V_lss) ?_
     refine ov (V_pick_f rfl (decide_eq_false (by omega)) rfl) ?_
     refine nq ?_
     refine W.cond_true rfl (decide_eq_true c2) ?_
     refine sr ?_
     refine omv ?_
     refine omv ?_
     refine oy rfl rfl ?_
     refine omv ?_
     refine oy rfl rfl ?_
     refine ov (V_neqP (by kernel_rfl) rfl rfl) ?_
     refine ov (V_pick_t rfl rfl rfl) ?_
     refine oas ?_
     refine nq ?_
     refine W.ret ?_
     refine WQ.then_ret ?_
     refine WQ.ret1 Try.results13 (.tmp rfl) ?_
     intro w' hp; exact ⟨by first | rfl | exact congrArg (fun b => Ending.returned (.bool b)) (decide_eq_true (by omega)) | (simp; done), hp.forget⟩
   · obtain ⟨hv0, hS0, hn0⟩ := LV.new (n := 64) (by omega) (by omega) h35.1 h35.2
     rw [hS0] at hv0 ⊢
     refine W.region ?_
     refine omv ?_
     refine ov (V_eqlP (by kernel_rfl) rfl rfl) ?_
     refine omv ?_
     refine oy rfl rfl ?_
     refine omv ?_
     refine oy rfl rfl ?_
     refine ov vlenS ?_
     refine oy rfl rfl ?_
     refine ov (v2 V_gtr) ?_
     refine ov (V_pick_f rfl rfl rfl) ?_
     refine omv ?_
     refine oy rfl (decide_eq_false (by omega)) ?_
     refine omv ?_
     refine oy rfl (decide_eq_false (by omega)) ?_
     refine ov (v2 V_lss) ?_
     refine ov (V_pick_f rfl (decide_eq_false (by omega)) rfl) ?_
     refine nq ?_
     refine W.cond_false rfl (decide_eq_false c2) ?_
     refine W.skip ?_
     refine WQ.then ?_
     refine sr ?_
     refine omv ?_
     refine omv ?_
     refine cms rfl (fun w hp => fuse21_calls b30 (newD 64) k0 fuse hfb w (HP.here hp cov)) ?_
     refine nx ?_
     refine omk (fun b57 => ?_)
     refine oas ?_
     refine nx ?_
     refine oas ?_
     refine nq ?_
     refine W.seq ?_
     refine sr ?_
     refine oas ?_
     refine nq ?_
     refine W.block ?_
     -- LOOP 0
     refine W.pick (S' := [(13, _), (14, _), (0, _), (1, _), (2, _), (6, _), (7, _), (8, _), (11, _), (12, _), (48, _)]) [13, 14, 0, 1, 2, 6, 7, 8, 11, 12, 48] rfl ?_
     refine W.loopG (σ := Nat × DS × GR × LS × BM × Nat × Uq × Int) (fun ⟨i, D, g, S, m, ck, u, un⟩ => i ≤ n ∧ Ss D g S m u un i) (fun ⟨i, D, g, S, m, ck, u, un⟩ => [(13, .int .i64 un), (14, .int .i64 (i : Nat))]) (fun ⟨i, D, g, S, m, ck, u, un⟩ => [(b30.d, .cells [(1, [.slice (some ⟨b30.s, 0, none⟩) D.n D.n]), (1, [.map (some b30.m)]), (1, [.int .i64 D.fuse]), (1, [.bool D.dead])] 101), (b30.s, .cells [(D.n * 64, iv .u8 D.sure.flatten)] 58), (b30.m, .obj (mapO .i64 (D.m.map sE) D.ck)), (r35.1, .cells [(1, [.pointer (some ⟨b30.d, 0, none⟩)]), (1, [.int .i64 (g.rs.length : Nat)]), (1, [.int .i64 (D.n : Nat)]), (1, [.slice (gA g.o) g.rs.length (gC g.o)])] 103), (r35.2.1, .cells [(1, [.pointer (some ⟨r35.1, 0, none⟩)]), (1, [.map (some r35.2.2.1)])] 121), (r35.2.2.1, .obj (mapO .i64 (S.m.map (gE stkV)) S.ck)), (b57, .obj (mapO .i64 (m.map bE) ck))]) [] (fun ⟨i, D, g, S, m, ck, u, un⟩ => gRL 5 31 g) (fun ⟨i, D, g, S, m, ck, u, un⟩ => n - i) (0, fuD (newD 64) fuse, r35.2.2.2, ⟨[], 0⟩, [], 0, none, -1) rfl cov ⟨Nat.zero_le _, Ss.new ⟨by omega, hfb.2⟩ h35.1 h35.2⟩ ?_
     rintro ⟨i, D, g, S, m, ck, u, un⟩ ⟨hi, hS⟩; dsimp only at hi hS ⊢
     refine W.seq ?_
     refine sr ?_
     refine omv ?_
     refine omv ?_
     refine ov vlenS ?_
     refine ov (v2 V_lss) ?_
     refine nq ?_
     refine W.cond_dec rfl (fun g1 => ?_) (fun g1 => ?_)
     · refine W.skip ?_
       refine WQ.then ?_
       refine W.seq ?_
       refine W.block ?_
       refine W.seq ?_
       have hlr := hlb (l.getD i 0) (by rw [List.getD_eq_getElem?_getD, List.getElem?_eq_getElem (by omega)]; exact List.getElem_mem (by omega))
       have han := and7 (i := i) (by omega)
       refine W.region ?_
       refine omv ?_
       refine omv ?_
       refine ov (v2 V_and) ?_
       refine omv ?_
       refine omv ?_
       obtain ⟨bbA, ooA, rfl⟩ := hs.hasN sc
       refine ov (viO 1) ?_
       refine ov (vldS i hs) ?_
       refine cgP _ rfl (fun w hp => add23_calls b30 D hS.ok r35.1 g hS.gok hS.gn r35.2.1 r35.2.2.1 S hS.ls (andI .i64 (i : Int) 7) (l.getD i 0) 5 w (HP.here hp cov)) (fun r71 h71 => ?_)
       simp only [List.cons_append, List.nil_append, List.append_nil, List.append_assoc]
       refine WL.back (gRL 5 31 r71) ?_
       simp only [List.cons_append, List.nil_append, List.append_nil, List.append_assoc]
       refine oas ?_
       refine nq ?_
       refine W.seq ?_
       refine W.seq ?_
       obtain ⟨hz1, hz2, hz3, hz4⟩ := hS.step (ck := ck) (by omega) han h71
       generalize goE D g.rs.length (adQ S (andI .i64 (i : Int) 7) (l.getD i 0) 5) = e1 at hz1 hz2 hz3 hz4 ⊢
       generalize goD D g.rs.length (adQ S (andI .i64 (i : Int) 7) (l.getD i 0) 5) = D1 at hz1 hz2 hz3 hz4 ⊢
       generalize goS D g.rs.length S (adQ S (andI .i64 (i : Int) 7) (l.getD i 0) 5) = S1 at hz1 hz2 hz3 hz4 ⊢
       by_cases he : e1 = 0
       · obtain ⟨hq, hS1⟩ := hz1 he
         subst he
         refine W.region ?_
         refine omv ?_
         refine ov (v2 V_eql) ?_
         refine nq ?_
         refine W.cond_true rfl rfl ?_
         refine W.seq ?_
         refine sr ?_
         refine omv ?_
         refine omv ?_
         refine omv ?_
         refine ov (viO 1) ?_
         refine ov (vldS i hs) ?_
         refine ov (vlkZ 4 (.bool false) (.bool false) (bget (o := none) (by rw [hS.told, hq]; rfl))) ?_
         refine nq ?_
         refine W.cond_false rfl rfl ?_
         refine W.skip ?_
         refine WQ.then ?_
         refine W.region ?_
         refine omv ?_
         refine omv ?_
         refine omv ?_
         refine ov (viO 1) ?_
         refine ov (vldS i hs) ?_
         refine omu ?_
         refine nx ?_
         refine omv ?_
         refine ov (v2 V_eql) ?_
         refine omv ?_
         refine on rfl (by decide) ?_
         refine on rfl (by decide) ?_
         refine ov (V_pick_f rfl (by decide) rfl) ?_
         refine nq ?_
         refine W.cond_false rfl rfl ?_
         refine W.skip ?_
         refine WQ.block_normal ?_
         refine WQ.then ?_
         refine W.region ?_
         refine omv ?_
         first | refine ov vaddN ?_ | refine ov vadd ?_
         refine oas ?_
         refine WL.nil ?_
         rw [bput, bclk]
         exact ag (i + 1, D1, r71, S1, kput m ck (l.getD i 0) true, kck m ck (l.getD i 0), u, un) [13, 14, 0, 1, 2, 6, 7, 8, 11, 12, 48] (by (try dsimp only); exact ⟨by omega, hS1⟩) (by (try dsimp only); omega) rfl cov
       · refine W.region ?_
         refine omv ?_
         refine ov (v2 V_eql) ?_
         refine nq ?_
         refine W.cond_false rfl (decide_eq_false he) ?_
         refine W.skip ?_
         refine WQ.then ?_
         refine sr ?_
         refine omv ?_
         refine ov (v2 V_eql) ?_
         refine omv ?_
         refine WL.splitD rfl (fun g2 => ?_) (fun g2 => ?_)
         · refine oy rfl (decide_eq_true g2) ?_
           refine omv ?_
           refine oy rfl (decide_eq_true g2) ?_
           refine ov (v2 V_lss) ?_
           refine ov (V_pick_td rfl g2 rfl) ?_
           refine nq ?_
           refine W.cond_dec rfl (fun g3 => ?_) (fun g3 => ?_)
           · refine W.region ?_
             refine omv ?_
             refine omv ?_
             refine ov (viO 1) ?_
             refine ov (vldS i hs) ?_
             refine oas ?_
             refine WL.nil ?_
             refine WQ.block_normal ?_
             refine WQ.then ?_
             refine W.region ?_
             refine omv ?_
             first | refine ov vaddN ?_ | refine ov vadd ?_
             refine oas ?_
             refine WL.nil ?_
             obtain ⟨u', hS1⟩ := hz2 (by assumption) (by assumption)
             exact ag (i + 1, D1, r71, S1, m, ck, u', l.getD i 0) [13, 14, 0, 1, 2, 6, 7, 8, 11, 12, 48] (by (try dsimp only); exact ⟨by omega, hS1⟩) (by (try dsimp only); omega) rfl cov
           · refine W.skip ?_
             refine WQ.block_normal ?_
             refine WQ.then ?_
             refine W.region ?_
             refine omv ?_
             first | refine ov vaddN ?_ | refine ov vadd ?_
             refine oas ?_
             refine WL.nil ?_
             exact ag (i + 1, D1, r71, S1, m, ck, u, un) [13, 14, 0, 1, 2, 6, 7, 8, 11, 12, 48] (by (try dsimp only); exact ⟨by omega, hz3 (by assumption) (by assumption)⟩) (by (try dsimp only); omega) rfl cov
         · refine on rfl (decide_eq_false g2) ?_
           refine on rfl (decide_eq_false g2) ?_
           refine ov (V_pick_fd rfl g2 rfl) ?_
           refine nq ?_
           refine W.cond_false rfl rfl ?_
           refine W.skip ?_
           refine WQ.block_normal ?_
           refine WQ.then ?_
           refine W.region ?_
           refine omv ?_
           first | refine ov vaddN ?_ | refine ov vadd ?_
           refine oas ?_
           refine WL.nil ?_
           exact ag (i + 1, D1, r71, S1, m, ck, u, un) [13, 14, 0, 1, 2, 6, 7, 8, 11, 12, 48] (by (try dsimp only); exact ⟨by omega, hz4 he (by assumption)⟩) (by (try dsimp only); omega) rfl cov
     · refine W.exit ?_
       refine WQ.then_exit ?_
       refine WQ.then_exit ?_
       refine WQ.block_hit ?_
       refine WQ.then ?_
       refine sr ?_
       refine omv ?_
       refine omv ?_
       refine cms rfl (fun w hp => crash21_calls b30 D hS.ok kept hkb w (HP.here hp cov)) ?_
       refine nx ?_
       refine omv ?_
       refine cgP _ rfl (fun w hp => begun23_calls b30 (crD D kept) (crD_ok hS.ok) w (HP.here hp cov)) (fun r100 h100 => ?_)
       simp only [List.cons_append, List.nil_append, List.append_nil, List.append_assoc]
       refine WL.back (gRL 5 31 r100.2.2.2) ?_
       simp only [List.cons_append, List.nil_append, List.append_nil, List.append_assoc]
       refine omv ?_
       refine ov vex ?_
       refine ov vex ?_
       refine oas ?_
       refine oas ?_
       refine nq ?_
       refine W.seq ?_
       refine W.seq ?_
       obtain ⟨hv, hTl⟩ := hS.lv kept h100
       have hT := hS.tf kept
       generalize opS (opL (crD D kept)) = T at hv hT hTl ⊢
       generalize crD D kept = F at hv ⊢
       refine W.region ?_
       refine omv ?_
       refine ov (V_eqlP (by kernel_rfl) rfl rfl) ?_
       refine nq ?_
       refine W.cond_false rfl rfl ?_
       refine W.skip ?_
       refine WQ.then ?_
       refine sr ?_
       refine oas ?_
       refine nq ?_
       refine W.seq ?_
       refine sr ?_
       refine oas ?_
       refine nq ?_
       refine W.block ?_
       -- LOOP 1
       refine W.pick (S' := [(18, _), (19, _), (0, _), (1, _), (2, _), (6, _), (7, _), (8, _), (11, _), (12, _), (13, _), (14, _), (17, _), (48, _), (61, _), (104, _)]) [18, 19, 0, 1, 2, 6, 7, 8, 11, 12, 13, 14, 17, 48, 61, 104] rfl ?_
       refine W.loopG (σ := Nat × Nat) (fun ⟨q, k⟩ => q ≤ 8 ∧ k = sumC T q ∧ k ≤ 64 * q) (fun ⟨q, k⟩ => [(18, .int .i64 (k : Nat)), (19, .int .i64 (q : Nat))]) (fun ⟨q, k⟩ => [(b30.d, .cells [(1, [.slice (some ⟨b30.s, 0, none⟩) F.n F.n]), (1, [.map (some b30.m)]), (1, [.int .i64 F.fuse]), (1, [.bool F.dead])] 101), (b30.s, .cells [(F.n * 64, iv .u8 F.sure.flatten)] 58), (b30.m, .obj (mapO .i64 (F.m.map sE) F.ck)), (r100.1, .cells [(1, [.pointer (some ⟨b30.d, 0, none⟩)]), (1, [.int .i64 (r100.2.2.2.rs.length : Nat)]), (1, [.int .i64 (F.n : Nat)]), (1, [.slice (gA r100.2.2.2.o) r100.2.2.2.rs.length (gC r100.2.2.2.o)])] 103), (r100.2.1, .cells [(1, [.pointer (some ⟨r100.1, 0, none⟩)]), (1, [.map (some r100.2.2.1)])] 121), (r100.2.2.1, .obj (mapO .i64 (T.m.map (gE stkV)) T.ck)), (b57, .obj (mapO .i64 (m.map bE) ck))]) [] (fun ⟨q, k⟩ => gRL 5 31 r100.2.2.2) (fun ⟨q, k⟩ => 8 - q) (0, 0) rfl cov ⟨Nat.zero_le _, rfl, Nat.le_refl _⟩ ?_
       rintro ⟨q, k⟩ ⟨hq8, hk, hkl⟩; dsimp only at hq8 hk hkl ⊢
       have hcl := cnt_le (m := T.m) (a := (q : Nat)) (now := 5)
       refine W.seq ?_
       refine sr ?_
       refine omv ?_
       refine ov (v2 V_lss) ?_
       refine nq ?_
       refine W.cond_dec rfl (fun g4 => ?_) (fun g4 => ?_)
       · refine W.skip ?_
         refine WQ.then ?_
         refine W.seq ?_
         refine W.block ?_
         refine W.region ?_
         refine omv ?_
         refine omv ?_
         refine omv ?_
         refine cms rfl (fun w hp => count23_calls r100.2.1 r100.2.2.1 r100.1 T hv.ls hv.sm (q : Nat) 5 (by omega) w (HP.here hp cov)) ?_
         first | refine ov vaddN ?_ | refine ov vadd ?_
         refine oas ?_
         refine WL.nil ?_
         refine WQ.block_normal ?_
         refine WQ.then ?_
         refine W.region ?_
         refine omv ?_
         first | refine ov vaddN ?_ | refine ov vadd ?_
         refine oas ?_
         refine WL.nil ?_
         exact ag (q + 1, k + cnt T.m (q : Nat) 5) [18, 19, 0, 1, 2, 6, 7, 8, 11, 12, 13, 14, 17, 48, 61, 104] (by (try dsimp only); exact ⟨by omega, by rw [sumC_succ, hk], by omega⟩) (by (try dsimp only); omega) rfl cov
       · refine W.exit ?_
         refine WQ.then_exit ?_
         refine WQ.then_exit ?_
         refine WQ.block_hit ?_
         refine WQ.then ?_
         refine W.seq ?_
         have hq8 : q = 8 := by omega
         rw [hq8] at hk
         have hmn := hS.mlen
         have hmb : (m.map bE).length = m.length := List.length_map ..
         have hsa := sumC_all hT.ents
         have hss := hS.sl
         refine W.region ?_
         refine omv ?_
         refine omv ?_
         refine cms rfl (fun w hp => of23_calls r100.2.1 r100.2.2.1 r100.1 T hv.ls un w (HP.here hp cov)) ?_
         refine omv ?_
         refine ov vex ?_
         refine ov vex ?_
         refine ov vex ?_
         refine oas ?_
         refine oas ?_
         refine oas ?_
         refine nx ?_
         refine omv ?_
         refine ov (vlenM) ?_
         refine oas ?_
         refine nq ?_
         refine W.seq ?_
         refine sr ?_
         refine omv ?_
         refine ov (v2 V_geq) ?_
         refine omv ?_
         refine WL.splitD rfl (fun g5 => ?_) (fun g5 => ?_)
         · refine oy rfl (decide_eq_true g5) ?_
           refine omv ?_
           refine ov (V_pick_td rfl g5 rfl) ?_
           refine nq ?_
           refine W.cond rfl (fun g6 => ?_) (fun g6 => ?_)
           · refine W.region ?_
             refine omv ?_
             first | refine ov vaddN ?_ | refine ov vadd ?_
             refine oas ?_
             refine nq ?_
             refine W.seq ?_
             refine sr ?_
             refine oas ?_
             refine nq ?_
             refine W.block ?_
             -- LOOP 2
             refine W.pick (S' := [(24, _), (0, _), (1, _), (2, _), (6, _), (7, _), (8, _), (11, _), (12, _), (13, _), (14, _), (17, _), (18, _), (19, _), (22, _), (23, _), (48, _), (61, _), (104, _), (106, _), (127, _)]) [24, 0, 1, 2, 6, 7, 8, 11, 12, 13, 14, 17, 18, 19, 22, 23, 48, 61, 104, 106, 127] rfl ?_
             refine W.loopG (σ := Nat × GR) (fun ⟨q, g⟩ => q ≤ n ∧ LV F g T 64) (fun ⟨q, g⟩ => [(24, .int .i64 (q : Nat))]) (fun ⟨q, g⟩ => [(b30.d, .cells [(1, [.slice (some ⟨b30.s, 0, none⟩) F.n F.n]), (1, [.map (some b30.m)]), (1, [.int .i64 F.fuse]), (1, [.bool F.dead])] 101), (b30.s, .cells [(F.n * 64, iv .u8 F.sure.flatten)] 58), (b30.m, .obj (mapO .i64 (F.m.map sE) F.ck)), (r100.1, .cells [(1, [.pointer (some ⟨b30.d, 0, none⟩)]), (1, [.int .i64 (g.rs.length : Nat)]), (1, [.int .i64 (F.n : Nat)]), (1, [.slice (gA g.o) g.rs.length (gC g.o)])] 103), (r100.2.1, .cells [(1, [.pointer (some ⟨r100.1, 0, none⟩)]), (1, [.map (some r100.2.2.1)])] 121), (r100.2.2.1, .obj (mapO .i64 (T.m.map (gE stkV)) T.ck)), (b57, .obj (mapO .i64 (m.map bE) ck))]) [] (fun ⟨q, g⟩ => gRL 5 31 g) (fun ⟨q, g⟩ => n - q) (0, r100.2.2.2) rfl cov ⟨Nat.zero_le _, hv⟩ ?_
             rintro ⟨q, g⟩ ⟨hqn, hv⟩; dsimp only at hqn hv ⊢
             refine W.seq ?_
             refine sr ?_
             refine omv ?_
             refine omv ?_
             refine ov vlenS ?_
             refine ov (v2 V_lss) ?_
             refine nq ?_
             refine W.cond_dec rfl (fun g7 => ?_) (fun g7 => ?_)
             · refine W.skip ?_
               refine WQ.then ?_
               refine W.seq ?_
               refine W.block ?_
               refine sr ?_
               refine omv ?_
               refine omv ?_
               refine omv ?_
               obtain ⟨bbA, ooA, rfl⟩ := hs.hasN sc
               refine ov (viO 1) ?_
               refine ov (vldS q hs) ?_
               refine cms rfl (fun w hp => of23_calls r100.2.1 r100.2.2.1 r100.1 T hv.ls (l.getD q 0) w (HP.here hp cov)) ?_
               refine omv ?_
               refine ov vex ?_
               refine ov vex ?_
               refine ov vex ?_
               refine oas ?_
               refine oas ?_
               refine oas ?_
               refine nq ?_
               refine W.seq ?_
               by_cases hq : ∃ s, S.get (l.getD q 0) = some s
               · obtain ⟨s, hq⟩ := hq
                 obtain ⟨t, ht⟩ := hT.get _ _ hq
                 rw [ht, Option.isSome_some]
                 refine W.region ?_
                 refine omv ?_
                 refine omv ?_
                 refine omv ?_
                 refine ov (viO 1) ?_
                 refine ov (vldS q hs) ?_
                 refine ov (vlkZ 4 (.bool false) (.bool true) (bget (o := some true) (by rw [hS.told, hq]; rfl))) ?_
                 refine omv ?_
                 refine oy rfl rfl ?_
                 refine omv ?_
                 refine oy rfl rfl ?_
                 refine ov vnot ?_
                 refine oy rfl rfl ?_
                 refine omv ?_
                 refine oy rfl rfl ?_
                 refine omv ?_
                 refine oy rfl rfl ?_
                 refine omv ?_
                 refine oy rfl rfl ?_
                 refine omv ?_
                 refine oy rfl rfl ?_
                 refine ov (viO 1) ?_
                 refine oy rfl rfl ?_
                 refine ov (vldS q hs) ?_
                 refine oy rfl rfl ?_
                 refine cgP _ rfl (fun w hp => add23_calls b30 F hv.ok r100.1 g hv.gok hv.gn r100.2.1 r100.2.2.1 T hv.ls 0 (l.getD q 0) 9 w (HP.here hp cov)) (fun r161 h161 => ?_)
                 simp only [List.cons_append, List.nil_append, List.append_nil, List.append_assoc]
                 refine WL.back (gRL 5 31 r161) ?_
                 simp only [List.cons_append, List.nil_append, List.append_nil, List.append_assoc]
                 obtain ⟨e1, e2, hv1, hn1⟩ := hv.twice ⟨by omega, by omega⟩ ⟨by omega, by omega⟩ ht h161
                 have e0 : goD F g.rs.length (adQ T 0 (l.getD q 0) 9) = F := by
                   rw [adQ_old (by unfold adOK; rw [tmB_t (hv.ls.get ht).1]; rfl) ht]; rfl
                 rw [e1, e2, e0]
                 rw [e0] at hv1
                 refine oy rfl rfl ?_
                 refine ov (v2 V_neq) ?_
                 refine oy rfl rfl ?_
                 refine ov (V_pick_f rfl rfl rfl) ?_
                 refine ov (V_pick_t rfl rfl rfl) ?_
                 refine omv ?_
                 refine oy rfl (by decide) ?_
                 refine omv ?_
                 refine oy rfl (by decide) ?_
                 refine omv ?_
                 refine oy rfl rfl ?_
                 refine omv ?_
                 refine oy rfl rfl ?_
                 refine omv ?_
                 refine oy rfl rfl ?_
                 refine omv ?_
                 refine oy rfl rfl ?_
                 refine ov (viO 1) ?_
                 refine oy rfl rfl ?_
                 refine ov (vldS q hs) ?_
                 refine oy rfl rfl ?_
                 refine ov (vlkZ 4 (.bool false) (.bool true) (bget (o := some true) (by rw [hS.told, hq]; rfl))) ?_
                 refine oy rfl rfl ?_
                 refine ov vnot ?_
                 refine oy rfl (by decide) ?_
                 refine ov (V_pick_t rfl rfl rfl) ?_
                 refine oy rfl (by decide) ?_
                 refine omv ?_
                 refine on rfl rfl ?_
                 refine on rfl rfl ?_
                 refine on rfl rfl ?_
                 refine on rfl rfl ?_
                 refine on rfl rfl ?_
                 refine on rfl rfl ?_
                 refine oy rfl (by decide) ?_
                 refine ov (V_pick_f rfl rfl rfl) ?_
                 refine ov (V_pick_f rfl (by decide) rfl) ?_
                 refine nq ?_
                 refine W.cond_false rfl rfl ?_
                 refine W.skip ?_
                 refine WQ.block_normal ?_
                 refine WQ.then ?_
                 refine W.region ?_
                 refine omv ?_
                 first | refine ov vaddN ?_ | refine ov vadd ?_
                 refine oas ?_
                 refine WL.nil ?_
                 exact ag (q + 1, r161) [24, 0, 1, 2, 6, 7, 8, 11, 12, 13, 14, 17, 18, 19, 22, 23, 48, 61, 104, 106, 127] (by (try dsimp only); exact ⟨by omega, hv1⟩) (by (try dsimp only); omega) rfl cov
               · have hq0 : S.get (l.getD q 0) = none := by cases hx : S.get (l.getD q 0) with | none => rfl | some s => exact absurd ⟨s, hx⟩ hq
                 by_cases ht : ∃ t, T.get (l.getD q 0) = some t
                 · obtain ⟨t, ht⟩ := ht
                   have hun := (hT.new _ _ ht).resolve_left hq
                   rw [ht, Option.isSome_some]
                   refine W.region ?_
                   refine omv ?_
                   refine omv ?_
                   refine omv ?_
                   refine ov (viO 1) ?_
                   refine ov (vldS q hs) ?_
                   refine ov (vlkZ 4 (.bool false) (.bool false) (bget (o := none) (by rw [hS.told, hq0]; rfl))) ?_
                   refine omv ?_
                   refine on rfl rfl ?_
                   refine on rfl rfl ?_
                   refine on rfl rfl ?_
                   refine onu rfl ?_
                   refine onu rfl ?_
                   refine onu rfl ?_
                   refine onu rfl ?_
                   refine onu rfl ?_
                   refine onu rfl ?_
                   refine onu rfl ?_
                   refine on rfl rfl ?_
                   refine ov (V_pick_f rfl rfl rfl) ?_
                   refine omv ?_
                   refine oy rfl rfl ?_
                   refine omv ?_
                   refine oy rfl rfl ?_
                   refine omv ?_
                   refine oy rfl rfl ?_
                   refine omv ?_
                   refine oy rfl rfl ?_
                   refine omv ?_
                   refine oy rfl rfl ?_
                   refine omv ?_
                   refine oy rfl rfl ?_
                   refine ov (viO 1) ?_
                   refine oy rfl rfl ?_
                   refine ov (vldS q hs) ?_
                   refine oy rfl rfl ?_
                   refine ov (vlkZ 4 (.bool false) (.bool false) (bget (o := none) (by rw [hS.told, hq0]; rfl))) ?_
                   refine oy rfl rfl ?_
                   refine ov vnot ?_
                   refine oy rfl rfl ?_
                   refine ov (V_pick_t rfl rfl rfl) ?_
                   refine oy rfl rfl ?_
                   refine omv ?_
                   refine oy rfl rfl ?_
                   refine omv ?_
                   refine oy rfl rfl ?_
                   refine omv ?_
                   refine oy rfl rfl ?_
                   refine ov (viO 1) ?_
                   refine oy rfl rfl ?_
                   refine ov (vldS q hs) ?_
                   refine oy rfl rfl ?_
                   refine omv ?_
                   refine oy rfl rfl ?_
                   refine ov (v2 V_neq) ?_
                   refine oy rfl rfl ?_
                   refine ov (V_pick_t rfl rfl rfl) ?_
                   refine ov (V_pick_f rfl rfl rfl) ?_
                   refine nq ?_
                   refine W.cond_false rfl (by rw [hun]; simp) ?_
                   refine W.skip ?_
                   refine WQ.block_normal ?_
                   refine WQ.then ?_
                   refine W.region ?_
                   refine omv ?_
                   first | refine ov vaddN ?_ | refine ov vadd ?_
                   refine oas ?_
                   refine WL.nil ?_
                   exact ag (q + 1, g) [24, 0, 1, 2, 6, 7, 8, 11, 12, 13, 14, 17, 18, 19, 22, 23, 48, 61, 104, 106, 127] (by (try dsimp only); exact ⟨by omega, hv⟩) (by (try dsimp only); omega) rfl cov
                 · have ht0 : T.get (l.getD q 0) = none := by cases hx : T.get (l.getD q 0) with | none => rfl | some s => exact absurd ⟨s, hx⟩ ht
                   rw [ht0, Option.isSome_none]
                   refine W.region ?_
                   refine omv ?_
                   refine omv ?_
                   refine omv ?_
                   refine ov (viO 1) ?_
                   refine ov (vldS q hs) ?_
                   refine ov (vlkZ 4 (.bool false) (.bool false) (bget (o := none) (by rw [hS.told, hq0]; rfl))) ?_
                   refine omv ?_
                   refine on rfl rfl ?_
                   refine on rfl rfl ?_
                   refine on rfl rfl ?_
                   refine onu rfl ?_
                   refine onu rfl ?_
                   refine onu rfl ?_
                   refine onu rfl ?_
                   refine onu rfl ?_
                   refine onu rfl ?_
                   refine onu rfl ?_
                   refine on rfl rfl ?_
                   refine ov (V_pick_f rfl rfl rfl) ?_
                   refine omv ?_
                   refine oy rfl rfl ?_
                   refine omv ?_
                   refine oy rfl rfl ?_
                   refine omv ?_
                   refine on rfl rfl ?_
                   refine on rfl rfl ?_
                   refine on rfl rfl ?_
                   refine on rfl rfl ?_
                   refine on rfl rfl ?_
                   refine on rfl rfl ?_
                   refine on rfl rfl ?_
                   refine oy rfl rfl ?_
                   refine ov (V_pick_f rfl rfl rfl) ?_
                   refine oy rfl rfl ?_
                   refine omv ?_
                   refine on rfl rfl ?_
                   refine on rfl rfl ?_
                   refine on rfl rfl ?_
                   refine on rfl rfl ?_
                   refine on rfl rfl ?_
                   refine on rfl rfl ?_
                   refine oy rfl rfl ?_
                   refine ov (V_pick_f rfl rfl rfl) ?_
                   refine ov (V_pick_f rfl rfl rfl) ?_
                   refine nq ?_
                   refine W.cond_false rfl rfl ?_
                   refine W.skip ?_
                   refine WQ.block_normal ?_
                   refine WQ.then ?_
                   refine W.region ?_
                   refine omv ?_
                   first | refine ov vaddN ?_ | refine ov vadd ?_
                   refine oas ?_
                   refine WL.nil ?_
                   exact ag (q + 1, g) [24, 0, 1, 2, 6, 7, 8, 11, 12, 13, 14, 17, 18, 19, 22, 23, 48, 61, 104, 106, 127] (by (try dsimp only); exact ⟨by omega, hv⟩) (by (try dsimp only); omega) rfl cov
             · refine W.exit ?_
               refine WQ.then_exit ?_
               refine WQ.then_exit ?_
               refine WQ.block_hit ?_
               refine WQ.then ?_
               refine W.seq ?_
               have hTn := hT.len
               rw [if_pos ⟨by omega, by assumption⟩] at hTn
               refine W.region ?_
               refine omv ?_
               refine omv ?_
               refine oy rfl rfl ?_
               refine omv ?_
               refine oy rfl rfl ?_
               refine omv ?_
               refine oy rfl rfl ?_
               refine ov (v2 V_eql) ?_
               refine ov (V_pick_t rfl rfl rfl) ?_
               refine oas ?_
               refine nq ?_
               refine W.ret ?_
               refine WQ.ret1 Try.results13 (.tmp rfl) ?_
               intro w' hp; exact ⟨by first | rfl | exact congrArg (fun b => Ending.returned (.bool b)) (decide_eq_true (by omega)) | (simp; done), hp.forget⟩
           · refine W.skip ?_
             refine WQ.then ?_
             refine W.seq ?_
             refine sr ?_
             refine oas ?_
             refine nq ?_
             refine W.block ?_
             -- LOOP 3
             refine W.pick (S' := [(24, _), (0, _), (1, _), (2, _), (6, _), (7, _), (8, _), (11, _), (12, _), (13, _), (14, _), (17, _), (18, _), (19, _), (22, _), (23, _), (48, _), (61, _), (104, _), (106, _), (127, _)]) [24, 0, 1, 2, 6, 7, 8, 11, 12, 13, 14, 17, 18, 19, 22, 23, 48, 61, 104, 106, 127] rfl ?_
             refine W.loopG (σ := Nat × GR) (fun ⟨q, g⟩ => q ≤ n ∧ LV F g T 64) (fun ⟨q, g⟩ => [(24, .int .i64 (q : Nat))]) (fun ⟨q, g⟩ => [(b30.d, .cells [(1, [.slice (some ⟨b30.s, 0, none⟩) F.n F.n]), (1, [.map (some b30.m)]), (1, [.int .i64 F.fuse]), (1, [.bool F.dead])] 101), (b30.s, .cells [(F.n * 64, iv .u8 F.sure.flatten)] 58), (b30.m, .obj (mapO .i64 (F.m.map sE) F.ck)), (r100.1, .cells [(1, [.pointer (some ⟨b30.d, 0, none⟩)]), (1, [.int .i64 (g.rs.length : Nat)]), (1, [.int .i64 (F.n : Nat)]), (1, [.slice (gA g.o) g.rs.length (gC g.o)])] 103), (r100.2.1, .cells [(1, [.pointer (some ⟨r100.1, 0, none⟩)]), (1, [.map (some r100.2.2.1)])] 121), (r100.2.2.1, .obj (mapO .i64 (T.m.map (gE stkV)) T.ck)), (b57, .obj (mapO .i64 (m.map bE) ck))]) [] (fun ⟨q, g⟩ => gRL 5 31 g) (fun ⟨q, g⟩ => n - q) (0, r100.2.2.2) rfl cov ⟨Nat.zero_le _, hv⟩ ?_
             rintro ⟨q, g⟩ ⟨hqn, hv⟩; dsimp only at hqn hv ⊢
             refine W.seq ?_
             refine sr ?_
             refine omv ?_
             refine omv ?_
             refine ov vlenS ?_
             refine ov (v2 V_lss) ?_
             refine nq ?_
             refine W.cond_dec rfl (fun g8 => ?_) (fun g8 => ?_)
             · refine W.skip ?_
               refine WQ.then ?_
               refine W.seq ?_
               refine W.block ?_
               refine sr ?_
               refine omv ?_
               refine omv ?_
               refine omv ?_
               obtain ⟨bbA, ooA, rfl⟩ := hs.hasN sc
               refine ov (viO 1) ?_
               refine ov (vldS q hs) ?_
               refine cms rfl (fun w hp => of23_calls r100.2.1 r100.2.2.1 r100.1 T hv.ls (l.getD q 0) w (HP.here hp cov)) ?_
               refine omv ?_
               refine ov vex ?_
               refine ov vex ?_
               refine ov vex ?_
               refine oas ?_
               refine oas ?_
               refine oas ?_
               refine nq ?_
               refine W.seq ?_
               by_cases hq : ∃ s, S.get (l.getD q 0) = some s
               · obtain ⟨s, hq⟩ := hq
                 obtain ⟨t, ht⟩ := hT.get _ _ hq
                 rw [ht, Option.isSome_some]
                 refine W.region ?_
                 refine omv ?_
                 refine omv ?_
                 refine omv ?_
                 refine ov (viO 1) ?_
                 refine ov (vldS q hs) ?_
                 refine ov (vlkZ 4 (.bool false) (.bool true) (bget (o := some true) (by rw [hS.told, hq]; rfl))) ?_
                 refine omv ?_
                 refine oy rfl rfl ?_
                 refine omv ?_
                 refine oy rfl rfl ?_
                 refine ov vnot ?_
                 refine oy rfl rfl ?_
                 refine omv ?_
                 refine oy rfl rfl ?_
                 refine omv ?_
                 refine oy rfl rfl ?_
                 refine omv ?_
                 refine oy rfl rfl ?_
                 refine omv ?_
                 refine oy rfl rfl ?_
                 refine ov (viO 1) ?_
                 refine oy rfl rfl ?_
                 refine ov (vldS q hs) ?_
                 refine oy rfl rfl ?_
                 refine cgP _ rfl (fun w hp => add23_calls b30 F hv.ok r100.1 g hv.gok hv.gn r100.2.1 r100.2.2.1 T hv.ls 0 (l.getD q 0) 9 w (HP.here hp cov)) (fun r161 h161 => ?_)
                 simp only [List.cons_append, List.nil_append, List.append_nil, List.append_assoc]
                 refine WL.back (gRL 5 31 r161) ?_
                 simp only [List.cons_append, List.nil_append, List.append_nil, List.append_assoc]
                 obtain ⟨e1, e2, hv1, hn1⟩ := hv.twice ⟨by omega, by omega⟩ ⟨by omega, by omega⟩ ht h161
                 have e0 : goD F g.rs.length (adQ T 0 (l.getD q 0) 9) = F := by
                   rw [adQ_old (by unfold adOK; rw [tmB_t (hv.ls.get ht).1]; rfl) ht]; rfl
                 rw [e1, e2, e0]
                 rw [e0] at hv1
                 refine oy rfl rfl ?_
                 refine ov (v2 V_neq) ?_
                 refine oy rfl rfl ?_
                 refine ov (V_pick_f rfl rfl rfl) ?_
                 refine ov (V_pick_t rfl rfl rfl) ?_
                 refine omv ?_
                 refine oy rfl (by decide) ?_
                 refine omv ?_
                 refine oy rfl (by decide) ?_
                 refine omv ?_
                 refine oy rfl rfl ?_
                 refine omv ?_
                 refine oy rfl rfl ?_
                 refine omv ?_
                 refine oy rfl rfl ?_
                 refine omv ?_
                 refine oy rfl rfl ?_
                 refine ov (viO 1) ?_
                 refine oy rfl rfl ?_
                 refine ov (vldS q hs) ?_
                 refine oy rfl rfl ?_
                 refine ov (vlkZ 4 (.bool false) (.bool true) (bget (o := some true) (by rw [hS.told, hq]; rfl))) ?_
                 refine oy rfl rfl ?_
                 refine ov vnot ?_
                 refine oy rfl (by decide) ?_
                 refine ov (V_pick_t rfl rfl rfl) ?_
                 refine oy rfl (by decide) ?_
                 refine omv ?_
                 refine on rfl rfl ?_
                 refine on rfl rfl ?_
                 refine on rfl rfl ?_
                 refine on rfl rfl ?_
                 refine on rfl rfl ?_
                 refine on rfl rfl ?_
                 refine oy rfl (by decide) ?_
                 refine ov (V_pick_f rfl rfl rfl) ?_
                 refine ov (V_pick_f rfl (by decide) rfl) ?_
                 refine nq ?_
                 refine W.cond_false rfl rfl ?_
                 refine W.skip ?_
                 refine WQ.block_normal ?_
                 refine WQ.then ?_
                 refine W.region ?_
                 refine omv ?_
                 first | refine ov vaddN ?_ | refine ov vadd ?_
                 refine oas ?_
                 refine WL.nil ?_
                 exact ag (q + 1, r161) [24, 0, 1, 2, 6, 7, 8, 11, 12, 13, 14, 17, 18, 19, 22, 23, 48, 61, 104, 106, 127] (by (try dsimp only); exact ⟨by omega, hv1⟩) (by (try dsimp only); omega) rfl cov
               · have hq0 : S.get (l.getD q 0) = none := by cases hx : S.get (l.getD q 0) with | none => rfl | some s => exact absurd ⟨s, hx⟩ hq
                 by_cases ht : ∃ t, T.get (l.getD q 0) = some t
                 · obtain ⟨t, ht⟩ := ht
                   have hun := (hT.new _ _ ht).resolve_left hq
                   rw [ht, Option.isSome_some]
                   refine W.region ?_
                   refine omv ?_
                   refine omv ?_
                   refine omv ?_
                   refine ov (viO 1) ?_
                   refine ov (vldS q hs) ?_
                   refine ov (vlkZ 4 (.bool false) (.bool false) (bget (o := none) (by rw [hS.told, hq0]; rfl))) ?_
                   refine omv ?_
                   refine on rfl rfl ?_
                   refine on rfl rfl ?_
                   refine on rfl rfl ?_
                   refine onu rfl ?_
                   refine onu rfl ?_
                   refine onu rfl ?_
                   refine onu rfl ?_
                   refine onu rfl ?_
                   refine onu rfl ?_
                   refine onu rfl ?_
                   refine on rfl rfl ?_
                   refine ov (V_pick_f rfl rfl rfl) ?_
                   refine omv ?_
                   refine oy rfl rfl ?_
                   refine omv ?_
                   refine oy rfl rfl ?_
                   refine omv ?_
                   refine oy rfl rfl ?_
                   refine omv ?_
                   refine oy rfl rfl ?_
                   refine omv ?_
                   refine oy rfl rfl ?_
                   refine omv ?_
                   refine oy rfl rfl ?_
                   refine ov (viO 1) ?_
                   refine oy rfl rfl ?_
                   refine ov (vldS q hs) ?_
                   refine oy rfl rfl ?_
                   refine ov (vlkZ 4 (.bool false) (.bool false) (bget (o := none) (by rw [hS.told, hq0]; rfl))) ?_
                   refine oy rfl rfl ?_
                   refine ov vnot ?_
                   refine oy rfl rfl ?_
                   refine ov (V_pick_t rfl rfl rfl) ?_
                   refine oy rfl rfl ?_
                   refine omv ?_
                   refine oy rfl rfl ?_
                   refine omv ?_
                   refine oy rfl rfl ?_
                   refine omv ?_
                   refine oy rfl rfl ?_
                   refine ov (viO 1) ?_
                   refine oy rfl rfl ?_
                   refine ov (vldS q hs) ?_
                   refine oy rfl rfl ?_
                   refine omv ?_
                   refine oy rfl rfl ?_
                   refine ov (v2 V_neq) ?_
                   refine oy rfl rfl ?_
                   refine ov (V_pick_t rfl rfl rfl) ?_
                   refine ov (V_pick_f rfl rfl rfl) ?_
                   refine nq ?_
                   refine W.cond_false rfl (by rw [hun]; simp) ?_
                   refine W.skip ?_
                   refine WQ.block_normal ?_
                   refine WQ.then ?_
                   refine W.region ?_
                   refine omv ?_
                   first | refine ov vaddN ?_ | refine ov vadd ?_
                   refine oas ?_
                   refine WL.nil ?_
                   exact ag (q + 1, g) [24, 0, 1, 2, 6, 7, 8, 11, 12, 13, 14, 17, 18, 19, 22, 23, 48, 61, 104, 106, 127] (by (try dsimp only); exact ⟨by omega, hv⟩) (by (try dsimp only); omega) rfl cov
                 · have ht0 : T.get (l.getD q 0) = none := by cases hx : T.get (l.getD q 0) with | none => rfl | some s => exact absurd ⟨s, hx⟩ ht
                   rw [ht0, Option.isSome_none]
                   refine W.region ?_
                   refine omv ?_
                   refine omv ?_
                   refine omv ?_
                   refine ov (viO 1) ?_
                   refine ov (vldS q hs) ?_
                   refine ov (vlkZ 4 (.bool false) (.bool false) (bget (o := none) (by rw [hS.told, hq0]; rfl))) ?_
                   refine omv ?_
                   refine on rfl rfl ?_
                   refine on rfl rfl ?_
                   refine on rfl rfl ?_
                   refine onu rfl ?_
                   refine onu rfl ?_
                   refine onu rfl ?_
                   refine onu rfl ?_
                   refine onu rfl ?_
                   refine onu rfl ?_
                   refine onu rfl ?_
                   refine on rfl rfl ?_
                   refine ov (V_pick_f rfl rfl rfl) ?_
                   refine omv ?_
                   refine oy rfl rfl ?_
                   refine omv ?_
                   refine oy rfl rfl ?_
                   refine omv ?_
                   refine on rfl rfl ?_
                   refine on rfl rfl ?_
                   refine on rfl rfl ?_
                   refine on rfl rfl ?_
                   refine on rfl rfl ?_
                   refine on rfl rfl ?_
                   refine on rfl rfl ?_
                   refine oy rfl rfl ?_
                   refine ov (V_pick_f rfl rfl rfl) ?_
                   refine oy rfl rfl ?_
                   refine omv ?_
                   refine on rfl rfl ?_
                   refine on rfl rfl ?_
                   refine on rfl rfl ?_
                   refine on rfl rfl ?_
                   refine on rfl rfl ?_
                   refine on rfl rfl ?_
                   refine oy rfl rfl ?_
                   refine ov (V_pick_f rfl rfl rfl) ?_
                   refine ov (V_pick_f rfl rfl rfl) ?_
                   refine nq ?_
                   refine W.cond_false rfl rfl ?_
                   refine W.skip ?_
                   refine WQ.block_normal ?_
                   refine WQ.then ?_
                   refine W.region ?_
                   refine omv ?_
                   first | refine ov vaddN ?_ | refine ov vadd ?_
                   refine oas ?_
                   refine WL.nil ?_
                   exact ag (q + 1, g) [24, 0, 1, 2, 6, 7, 8, 11, 12, 13, 14, 17, 18, 19, 22, 23, 48, 61, 104, 106, 127] (by (try dsimp only); exact ⟨by omega, hv⟩) (by (try dsimp only); omega) rfl cov
             · refine W.exit ?_
               refine WQ.then_exit ?_
               refine WQ.then_exit ?_
               refine WQ.block_hit ?_
               refine WQ.then ?_
               refine W.seq ?_
               have hTn := hT.len
               rw [if_neg (by simp_all)] at hTn
               refine W.region ?_
               refine omv ?_
               refine omv ?_
               refine oy rfl rfl ?_
               refine omv ?_
               refine oy rfl rfl ?_
               refine omv ?_
               refine oy rfl rfl ?_
               refine ov (v2 V_eql) ?_
               refine ov (V_pick_t rfl rfl rfl) ?_
               refine oas ?_
               refine nq ?_
               refine W.ret ?_
               refine WQ.ret1 Try.results13 (.tmp rfl) ?_
               intro w' hp; exact ⟨by first | rfl | exact congrArg (fun b => Ending.returned (.bool b)) (decide_eq_true (by omega)) | (simp; done), hp.forget⟩
         · refine on rfl (decide_eq_false g5) ?_
           refine ov (V_pick_fd rfl g5 rfl) ?_
           refine nq ?_
           refine W.cond_false rfl rfl ?_
           refine W.skip ?_
           refine WQ.then ?_
           refine W.seq ?_
           refine sr ?_
           refine oas ?_
           refine nq ?_
           refine W.block ?_
           -- LOOP 4
           refine W.pick (S' := [(24, _), (0, _), (1, _), (2, _), (6, _), (7, _), (8, _), (11, _), (12, _), (13, _), (14, _), (17, _), (18, _), (19, _), (22, _), (23, _), (48, _), (61, _), (104, _), (106, _), (127, _)]) [24, 0, 1, 2, 6, 7, 8, 11, 12, 13, 14, 17, 18, 19, 22, 23, 48, 61, 104, 106, 127] rfl ?_
           refine W.loopG (σ := Nat × GR) (fun ⟨q, g⟩ => q ≤ n ∧ LV F g T 64) (fun ⟨q, g⟩ => [(24, .int .i64 (q : Nat))]) (fun ⟨q, g⟩ => [(b30.d, .cells [(1, [.slice (some ⟨b30.s, 0, none⟩) F.n F.n]), (1, [.map (some b30.m)]), (1, [.int .i64 F.fuse]), (1, [.bool F.dead])] 101), (b30.s, .cells [(F.n * 64, iv .u8 F.sure.flatten)] 58), (b30.m, .obj (mapO .i64 (F.m.map sE) F.ck)), (r100.1, .cells [(1, [.pointer (some ⟨b30.d, 0, none⟩)]), (1, [.int .i64 (g.rs.length : Nat)]), (1, [.int .i64 (F.n : Nat)]), (1, [.slice (gA g.o) g.rs.length (gC g.o)])] 103), (r100.2.1, .cells [(1, [.pointer (some ⟨r100.1, 0, none⟩)]), (1, [.map (some r100.2.2.1)])] 121), (r100.2.2.1, .obj (mapO .i64 (T.m.map (gE stkV)) T.ck)), (b57, .obj (mapO .i64 (m.map bE) ck))]) [] (fun ⟨q, g⟩ => gRL 5 31 g) (fun ⟨q, g⟩ => n - q) (0, r100.2.2.2) rfl cov ⟨Nat.zero_le _, hv⟩ ?_
           rintro ⟨q, g⟩ ⟨hqn, hv⟩; dsimp only at hqn hv ⊢
           refine W.seq ?_
           refine sr ?_
           refine omv ?_
           refine omv ?_
           refine ov vlenS ?_
           refine ov (v2 V_lss) ?_
           refine nq ?_
           refine W.cond_dec rfl (fun g9 => ?_) (fun g9 => ?_)
           · refine W.skip ?_
             refine WQ.then ?_
             refine W.seq ?_
             refine W.block ?_
             refine sr ?_
             refine omv ?_
             refine omv ?_
             refine omv ?_
             obtain ⟨bbA, ooA, rfl⟩ := hs.hasN sc
             refine ov (viO 1) ?_
             refine ov (vldS q hs) ?_
             refine cms rfl (fun w hp => of23_calls r100.2.1 r100.2.2.1 r100.1 T hv.ls (l.getD q 0) w (HP.here hp cov)) ?_
             refine omv ?_
             refine ov vex ?_
             refine ov vex ?_
             refine ov vex ?_
             refine oas ?_
             refine oas ?_
             refine oas ?_
             refine nq ?_
             refine W.seq ?_
             by_cases hq : ∃ s, S.get (l.getD q 0) = some s
             · obtain ⟨s, hq⟩ := hq
               obtain ⟨t, ht⟩ := hT.get _ _ hq
               rw [ht, Option.isSome_some]
               refine W.region ?_
               refine omv ?_
               refine omv ?_
               refine omv ?_
               refine ov (viO 1) ?_
               refine ov (vldS q hs) ?_
               refine ov (vlkZ 4 (.bool false) (.bool true) (bget (o := some true) (by rw [hS.told, hq]; rfl))) ?_
               refine omv ?_
               refine oy rfl rfl ?_
               refine omv ?_
               refine oy rfl rfl ?_
               refine ov vnot ?_
               refine oy rfl rfl ?_
               refine omv ?_
               refine oy rfl rfl ?_
               refine omv ?_
               refine oy rfl rfl ?_
               refine omv ?_
               refine oy rfl rfl ?_
               refine omv ?_
               refine oy rfl rfl ?_
               refine ov (viO 1) ?_
               refine oy rfl rfl ?_
               refine ov (vldS q hs) ?_
               refine oy rfl rfl ?_
               refine cgP _ rfl (fun w hp => add23_calls b30 F hv.ok r100.1 g hv.gok hv.gn r100.2.1 r100.2.2.1 T hv.ls 0 (l.getD q 0) 9 w (HP.here hp cov)) (fun r161 h161 => ?_)
               simp only [List.cons_append, List.nil_append, List.append_nil, List.append_assoc]
               refine WL.back (gRL 5 31 r161) ?_
               simp only [List.cons_append, List.nil_append, List.append_nil, List.append_assoc]
               obtain ⟨e1, e2, hv1, hn1⟩ := hv.twice ⟨by omega, by omega⟩ ⟨by omega, by omega⟩ ht h161
               have e0 : goD F g.rs.length (adQ T 0 (l.getD q 0) 9) = F := by
                 rw [adQ_old (by unfold adOK; rw [tmB_t (hv.ls.get ht).1]; rfl) ht]; rfl
               rw [e1, e2, e0]
               rw [e0] at hv1
               refine oy rfl rfl ?_
               refine ov (v2 V_neq) ?_
               refine oy rfl rfl ?_
               refine ov (V_pick_f rfl rfl rfl) ?_
               refine ov (V_pick_t rfl rfl rfl) ?_
               refine omv ?_
               refine oy rfl (by decide) ?_
               refine omv ?_
               refine oy rfl (by decide) ?_
               refine omv ?_
               refine oy rfl rfl ?_
               refine omv ?_
               refine oy rfl rfl ?_
               refine omv ?_
               refine oy rfl rfl ?_
               refine omv ?_
               refine oy rfl rfl ?_
               refine ov (viO 1) ?_
               refine oy rfl rfl ?_
               refine ov (vldS q hs) ?_
               refine oy rfl rfl ?_
               refine ov (vlkZ 4 (.bool false) (.bool true) (bget (o := some true) (by rw [hS.told, hq]; rfl))) ?_
               refine oy rfl rfl ?_
               refine ov vnot ?_
               refine oy rfl (by decide) ?_
               refine ov (V_pick_t rfl rfl rfl) ?_
               refine oy rfl (by decide) ?_
               refine omv ?_
               refine on rfl rfl ?_
               refine on rfl rfl ?_
               refine on rfl rfl ?_
               refine on rfl rfl ?_
               refine on rfl rfl ?_
               refine on rfl rfl ?_
               refine oy rfl (by decide) ?_
               refine ov (V_pick_f rfl rfl rfl) ?_
               refine ov (V_pick_f rfl (by decide) rfl) ?_
               refine nq ?_
               refine W.cond_false rfl rfl ?_
               refine W.skip ?_
               refine WQ.block_normal ?_
               refine WQ.then ?_
               refine W.region ?_
               refine omv ?_
               first | refine ov vaddN ?_ | refine ov vadd ?_
               refine oas ?_
               refine WL.nil ?_
               exact ag (q + 1, r161) [24, 0, 1, 2, 6, 7, 8, 11, 12, 13, 14, 17, 18, 19, 22, 23, 48, 61, 104, 106, 127] (by (try dsimp only); exact ⟨by omega, hv1⟩) (by (try dsimp only); omega) rfl cov
             · have hq0 : S.get (l.getD q 0) = none := by cases hx : S.get (l.getD q 0) with | none => rfl | some s => exact absurd ⟨s, hx⟩ hq
               by_cases ht : ∃ t, T.get (l.getD q 0) = some t
               · obtain ⟨t, ht⟩ := ht
                 have hun := (hT.new _ _ ht).resolve_left hq
                 rw [ht, Option.isSome_some]
                 refine W.region ?_
                 refine omv ?_
                 refine omv ?_
                 refine omv ?_
                 refine ov (viO 1) ?_
                 refine ov (vldS q hs) ?_
                 refine ov (vlkZ 4 (.bool false) (.bool false) (bget (o := none) (by rw [hS.told, hq0]; rfl))) ?_
                 refine omv ?_
                 refine on rfl rfl ?_
                 refine on rfl rfl ?_
                 refine on rfl rfl ?_
                 refine onu rfl ?_
                 refine onu rfl ?_
                 refine onu rfl ?_
                 refine onu rfl ?_
                 refine onu rfl ?_
                 refine onu rfl ?_
                 refine onu rfl ?_
                 refine on rfl rfl ?_
                 refine ov (V_pick_f rfl rfl rfl) ?_
                 refine omv ?_
                 refine oy rfl rfl ?_
                 refine omv ?_
                 refine oy rfl rfl ?_
                 refine omv ?_
                 refine oy rfl rfl ?_
                 refine omv ?_
                 refine oy rfl rfl ?_
                 refine omv ?_
                 refine oy rfl rfl ?_
                 refine omv ?_
                 refine oy rfl rfl ?_
                 refine ov (viO 1) ?_
                 refine oy rfl rfl ?_
                 refine ov (vldS q hs) ?_
                 refine oy rfl rfl ?_
                 refine ov (vlkZ 4 (.bool false) (.bool false) (bget (o := none) (by rw [hS.told, hq0]; rfl))) ?_
                 refine oy rfl rfl ?_
                 refine ov vnot ?_
                 refine oy rfl rfl ?_
                 refine ov (V_pick_t rfl rfl rfl) ?_
                 refine oy rfl rfl ?_
                 refine omv ?_
                 refine oy rfl rfl ?_
                 refine omv ?_
                 refine oy rfl rfl ?_
                 refine omv ?_
                 refine oy rfl rfl ?_
                 refine ov (viO 1) ?_
                 refine oy rfl rfl ?_
                 refine ov (vldS q hs) ?_
                 refine oy rfl rfl ?_
                 refine omv ?_
                 refine oy rfl rfl ?_
                 refine ov (v2 V_neq) ?_
                 refine oy rfl rfl ?_
                 refine ov (V_pick_t rfl rfl rfl) ?_
                 refine ov (V_pick_f rfl rfl rfl) ?_
                 refine nq ?_
                 refine W.cond_false rfl (by rw [hun]; simp) ?_
                 refine W.skip ?_
                 refine WQ.block_normal ?_
                 refine WQ.then ?_
                 refine W.region ?_
                 refine omv ?_
                 first | refine ov vaddN ?_ | refine ov vadd ?_
                 refine oas ?_
                 refine WL.nil ?_
                 exact ag (q + 1, g) [24, 0, 1, 2, 6, 7, 8, 11, 12, 13, 14, 17, 18, 19, 22, 23, 48, 61, 104, 106, 127] (by (try dsimp only); exact ⟨by omega, hv⟩) (by (try dsimp only); omega) rfl cov
               · have ht0 : T.get (l.getD q 0) = none := by cases hx : T.get (l.getD q 0) with | none => rfl | some s => exact absurd ⟨s, hx⟩ ht
                 rw [ht0, Option.isSome_none]
                 refine W.region ?_
                 refine omv ?_
                 refine omv ?_
                 refine omv ?_
                 refine ov (viO 1) ?_
                 refine ov (vldS q hs) ?_
                 refine ov (vlkZ 4 (.bool false) (.bool false) (bget (o := none) (by rw [hS.told, hq0]; rfl))) ?_
                 refine omv ?_
                 refine on rfl rfl ?_
                 refine on rfl rfl ?_
                 refine on rfl rfl ?_
                 refine onu rfl ?_
                 refine onu rfl ?_
                 refine onu rfl ?_
                 refine onu rfl ?_
                 refine onu rfl ?_
                 refine onu rfl ?_
                 refine onu rfl ?_
                 refine on rfl rfl ?_
                 refine ov (V_pick_f rfl rfl rfl) ?_
                 refine omv ?_
                 refine oy rfl rfl ?_
                 refine omv ?_
                 refine oy rfl rfl ?_
                 refine omv ?_
                 refine on rfl rfl ?_
                 refine on rfl rfl ?_
                 refine on rfl rfl ?_
                 refine on rfl rfl ?_
                 refine on rfl rfl ?_
                 refine on rfl rfl ?_
                 refine on rfl rfl ?_
                 refine oy rfl rfl ?_
                 refine ov (V_pick_f rfl rfl rfl) ?_
                 refine oy rfl rfl ?_
                 refine omv ?_
                 refine on rfl rfl ?_
                 refine on rfl rfl ?_
                 refine on rfl rfl ?_
                 refine on rfl rfl ?_
                 refine on rfl rfl ?_
                 refine on rfl rfl ?_
                 refine oy rfl rfl ?_
                 refine ov (V_pick_f rfl rfl rfl) ?_
                 refine ov (V_pick_f rfl rfl rfl) ?_
                 refine nq ?_
                 refine W.cond_false rfl rfl ?_
                 refine W.skip ?_
                 refine WQ.block_normal ?_
                 refine WQ.then ?_
                 refine W.region ?_
                 refine omv ?_
                 first | refine ov vaddN ?_ | refine ov vadd ?_
                 refine oas ?_
                 refine WL.nil ?_
                 exact ag (q + 1, g) [24, 0, 1, 2, 6, 7, 8, 11, 12, 13, 14, 17, 18, 19, 22, 23, 48, 61, 104, 106, 127] (by (try dsimp only); exact ⟨by omega, hv⟩) (by (try dsimp only); omega) rfl cov
           · refine W.exit ?_
             refine WQ.then_exit ?_
             refine WQ.then_exit ?_
             refine WQ.block_hit ?_
             refine WQ.then ?_
             refine W.seq ?_
             have hTn := hT.len
             rw [if_neg (by omega)] at hTn
             refine W.region ?_
             refine omv ?_
             refine omv ?_
             refine oy rfl rfl ?_
             refine omv ?_
             refine oy rfl rfl ?_
             refine omv ?_
             refine oy rfl rfl ?_
             refine ov (v2 V_eql) ?_
             refine ov (V_pick_t rfl rfl rfl) ?_
             refine oas ?_
             refine nq ?_
             refine W.ret ?_
             refine WQ.ret1 Try.results13 (.tmp rfl) ?_
             intro w' hp; exact ⟨by first | rfl | exact congrArg (fun b => Ending.returned (.bool b)) (decide_eq_true (by omega)) | (simp; done), hp.forget⟩

end Go.Proofs.Ytnpnnafcdnefiaa