/- Layer 20: mails of relays, whole; both relays begun. -/
import Derived.Test.YtmeckbjinmgbbaaDo
set_option linter.unusedVariables false
set_option linter.unusedSimpArgs false

namespace Go.Proofs.Ytmeckbjinmgbbaa
open Go.X
def mlsQ (Q : List (Option AAcc)) (n : Int) : List AM := match ofP Q n with
  | some a => a.ms
  | none => []
def rmO (rs : List (Option PAcc)) (n : Int) : Gr × List ML := match ofP rs n with
  | some a => (a.o, a.ms)
  | none => (none, [])
theorem MsOK.nil : MsOK [] := ⟨fun m hm => (List.not_mem_nil hm).elim, Nat.zero_le _⟩
theorem rmO_ok {k : Int} {rs : List (Option PAcc)} (h : QOK AOK k rs) {n : Int} : MsOK (rmO rs n).2 ∧ GrOK (rmO rs n).1 (rmO rs n).2.length ∧ (rmO rs n).2.map (·.1) = mlsQ (absO rs) n := by
  unfold rmO mlsQ
  rw [ofP_absO]
  cases hn : ofP rs n with
  | none => exact ⟨MsOK.nil, rfl, rfl⟩
  | some a =>
    have ha := (h.at_ hn).1.1
    exact ⟨ha.ms, ha.o, rfl⟩
theorem MlsAt.acc {w0 w : World} {O : List Nat} {L L' : List (Nat × Blk)} {k : Int} {rs : List (Option PAcc)} (h : QOK AOK k rs) (n : Int) (hp : HP w0 w O L) (hd : DelL (accs accR rs) L L' := by exact dell) : MlsAt w (rmO rs n).1 (rmO rs n).2 := by
  have hsub : ∀ p ∈ accs accR rs, p ∈ L := fun p hm => hd.perm.symm.subset (List.mem_append_left _ hm)
  unfold rmO
  cases hn : ofP rs n with
  | none => exact ⟨SrW.nil, fun m hm => (List.not_mem_nil hm).elim⟩
  | some a =>
    obtain ⟨⟨ha, _⟩, hs, _⟩ := h.at_ hn
    refine MlsAt.of hp ha.o ha.ms.1 (t := 138) fun p hm => hsub p ?_
    have h2 : (some a : Option PAcc) ∈ rs := List.mem_of_getElem? hs
    refine List.mem_flatMap.2 ⟨_, h2, ?_⟩
    show p ∈ accR a
    unfold accR; rw [hid0]
    exact List.mem_cons_of_mem _ (List.mem_cons_of_mem _ (List.mem_cons_of_mem _ (List.mem_append_right _ hm)))
theorem MlsAt.two {w0 w : World} {O : List Nat} {L L1 L2 : List (Nat × Blk)} {o : Gr} {ms : List ML} {t : TypeId} (hp : HP w0 w O L) (ho : GrOK o ms.length) (hms : ∀ m ∈ ms, MOK m) (hd : DelL (gLM 138 o ms.length (ms.flatMap mlV) t) L L1 := by exact dell) (hd2 : DelL (ms.flatMap mbL) L L2 := by exact dell) : MlsAt w o ms :=
  MlsAt.of hp ho hms (t := t) fun p hm => by
    rcases List.mem_append.1 hm with hm | hm
    · exact hd.perm.symm.subset (List.mem_append_left _ hm)
    · exact hd2.perm.symm.subset (List.mem_append_left _ hm)

theorem mails20W (b : Nat) (R : Rel) (qs : List (Option PAcc)) (k : Int) (hq : QOK POK k qs) (n : Int) (w : World) (hp0 : HP w w (((b, .cells (relS R.r (psO qs)) 110) :: accs accP qs).map (·.1)) ((b, .cells (relS R.r (psO qs)) 110) :: accs accP qs)) :
    Calls Try.prog 16 [.pointer (some ⟨b, 0, none⟩), .int .i64 n].toArray w fun e w' => ∃ r : Gr × List ML, (r.2.map (·.1) = mlsQ (absO qs) n ∧ MsOK r.2 ∧ GrOK r.1 r.2.length) ∧ e = .returned (.tuple #[.slice (gA r.1) r.2.length (gC r.1), .int .i64 (nonE (absO qs) n)]) ∧ HP w w' (((b, .cells (relS R.r (psO qs)) 110) :: accs accP qs).map (·.1)) (((b, .cells (relS R.r (psO qs)) 110) :: accs accP qs) ++ (gLM 138 r.1 r.2.length (r.2.flatMap mlV) 68 ++ r.2.flatMap mbL)) := by
  cases h : ofP qs n with
  | none =>
    have h2 : ofP (psO qs) n = none := by rw [ofP_psO, h]; rfl
    have h3 : ofP (absO qs) n = none := by rw [ofP_absO, h]; rfl
    refine (frm0 hp0 (mails20_none R.r b (psO qs) hq.p8 n h2 w (HP.atw hp0 List.mem_cons_self))).mono fun e w' ⟨h4, h5⟩ => ⟨(none, []), ⟨by unfold mlsQ; rw [h3]; rfl, MsOK.nil, rfl⟩, ?_, ?_⟩
    · rw [h4]; unfold nonE; rw [h3]; rfl
    · show HP w w' _ (((b, .cells (relS R.r (psO qs)) 110) :: accs accP qs) ++ ([] ++ [])); simpa using h5
  | some a =>
    obtain ⟨⟨ha, hm⟩, hs, hn⟩ := hq.at_ h
    have h2 : ofP (psO qs) n = some a.p := by rw [ofP_psO, h]; rfl
    have h3 : ofP (absO qs) n = some a.abs := by rw [ofP_absO, h]; rfl
    refine (frm hp0 (M0 := (b, .cells (relS R.r (psO qs)) 110) :: accP a) (Lr := accs accP (qs.set n.toNat none)) (List.Perm.cons _ (accs_split hs)) fun hp => mails20_calls R.r b (psO qs) hq.p8 n a ha h2 w hp).mono fun e w' ⟨r, ⟨h4, h5, h6⟩, h7, h8⟩ => ⟨r, ⟨?_, h5, h6⟩, ?_, ?_⟩
    · unfold mlsQ; rw [h3]; exact h4
    · rw [h7]; unfold nonE; rw [h3]
    · refine h8.perm ?_
      refine List.Perm.cons _ ?_
      have h9 := accs_split (f := accP) hs
      refine (h9.append_right _).trans ?_
      show ((accP a ++ accs accP (qs.set n.toNat none)) ++ (gLM 138 r.1 r.2.length (r.2.flatMap mlV) 68 ++ r.2.flatMap mbL)).Perm ((accP a ++ (gLM 138 r.1 r.2.length (r.2.flatMap mlV) 68 ++ r.2.flatMap mbL)) ++ accs accP (qs.set n.toNat none))
      rw [List.append_assoc, List.append_assoc]
      exact List.Perm.append_left _ List.perm_append_comm

theorem rmails20W (root : List Int) (hrl : root.length = 32) (ticks : Int) (b : Nat) (qs : List (Option PAcc)) (k : Int) (hq : QOK AOK k qs) (n : Int) (w : World) (hp0 : HP w w (((b, .cells (rlS root ticks (psO qs)) 130) :: accs accR qs).map (·.1)) ((b, .cells (rlS root ticks (psO qs)) 130) :: accs accR qs)) :
    Calls Try.prog 28 [.pointer (some ⟨b, 0, none⟩), .int .i64 n].toArray w fun e w' => ∃ r : Unit, True ∧ e = .returned (.tuple #[.slice (gA (rmO qs n).1) (rmO qs n).2.length (gC (rmO qs n).1), .int .i64 (nonE (absO qs) n)]) ∧ HP w w' (((b, .cells (rlS root ticks (psO qs)) 130) :: accs accR qs).map (·.1)) ((b, .cells (rlS root ticks (psO qs)) 130) :: accs accR qs) := by
  cases h : ofP qs n with
  | none =>
    have h2 : ofP (psO qs) n = none := by rw [ofP_psO, h]; rfl
    have h3 : ofP (absO qs) n = none := by rw [ofP_absO, h]; rfl
    refine (frm0 hp0 (rmails20_none root hrl ticks b (psO qs) hq.p8 n h2 w (HP.atw hp0 List.mem_cons_self))).mono fun e w' ⟨h4, h5⟩ => ⟨(), trivial, ?_, h5⟩
    rw [h4]; unfold nonE rmO; rw [h3, h]; rfl
  | some a =>
    obtain ⟨⟨ha, hm⟩, hs, hn⟩ := hq.at_ h
    have h2 : ofP (psO qs) n = some a.p := by rw [ofP_psO, h]; rfl
    have h3 : ofP (absO qs) n = some a.abs := by rw [ofP_absO, h]; rfl
    refine (frm hp0 (M0 := (b, .cells (rlS root ticks (psO qs)) 130) :: accR a) (Lr := accs accR (qs.set n.toNat none)) (List.Perm.cons _ (accs_split hs)) fun hp => rmails20_calls root hrl ticks b (psO qs) hq.p8 n a ha h2 w hp).mono fun e w' ⟨r, _, h7, h8⟩ => ⟨(), trivial, ?_, ?_⟩
    · rw [h7]; unfold nonE rmO; rw [h3, h]
    · exact h8.perm (List.Perm.cons _ (accs_split (f := accR) hs))

theorem rnew20_calls (rl : List Int) (ticks : Int) (hl : rl.length = 32) (ht : 1 ≤ ticks ∧ ticks ≤ 1000000) (w : World) :
    Calls Try.prog 26 [AG [(32, iv .u8 rl)], .int .i64 ticks].toArray w fun e w' => ∃ r : Nat, True ∧ e = .returned (.tuple #[.pointer (some ⟨r, 0, none⟩), .int .i64 0]) ∧ HP w w' [] [(r, .cells (rlS rl ticks (psO (List.replicate 8 none))) 130)] := by
 refine calls_of_W Try.func26 rfl Try.ntmps26 rfl rfl (HP.refl w []) ?_
 refine sr ?_
 refine obxa (fun b2 => ?_)
 refine oas ?_
 refine oas ?_
 refine nq ?_
 refine W.seq ?_
 refine sr ?_
 refine omv ?_
 refine ov (v2 V_lss) ?_
 refine omv ?_
 refine oy rfl (decide_eq_false (by omega)) ?_
 refine omv ?_
 refine oy rfl (decide_eq_false (by omega)) ?_
 refine ov (v2 V_gtr) ?_
 refine ov (V_pick_f rfl (decide_eq_false (by omega)) rfl) ?_
 refine nq ?_
 refine W.cond_false rfl (decide_eq_false (by omega)) ?_
 refine W.skip ?_
 refine WQ.then ?_
 refine sr ?_
 refine ov (vlda 32) ?_
 refine omv ?_
 refine ov (V_build (by kernel_rfl) (zi (zs := [(32, List.replicate 32 (.int .u8 0)), (1, [.int .i64 0]), (8, List.replicate 8 (.pointer none))])) (.agg (k := 0) (n := 32) rfl fit fln (by kernel_rfl) rfl (.one (k := 32) rfl rfl (by kernel_rfl) rfl (.nil _)))) ?_
 refine obxa (fun b15 => ?_)
 refine oas ?_
 refine oas ?_
 refine nq ?_
 refine W.ret ?_
 refine WQ.ret2 Try.results26 (.tmp rfl) (.tmp rfl) ?_
 intro w' hp; exact ⟨b15, trivial, rfl, hp.cov cov⟩

theorem rnew20_bad (rl : List Int) (ticks : Int) (hl : rl.length = 32) (ht : ¬ (1 ≤ ticks ∧ ticks ≤ 1000000)) (w : World) :
    Calls Try.prog 26 [AG [(32, iv .u8 rl)], .int .i64 ticks].toArray w fun e w' => e = .returned (.tuple #[.pointer none, .int .i64 1]) ∧ HP w w' [] [] := by
 refine calls_of_W Try.func26 rfl Try.ntmps26 rfl rfl (HP.refl w []) ?_
 refine sr ?_
 refine obxa (fun b2 => ?_)
 refine oas ?_
 refine oas ?_
 refine nq ?_
 refine W.seq ?_
 refine W.seq ?_
 by_cases h1 : ticks < 1
 · refine W.region ?_
   refine omv ?_
   refine ov (v2 V_lss) ?_
   refine omv ?_
   refine on rfl (decide_eq_true h1) ?_
   refine on rfl (decide_eq_true h1) ?_
   refine ov (V_pick_t rfl (decide_eq_true h1) rfl) ?_
   refine nq ?_
   refine W.cond_true rfl rfl ?_
   refine sr ?_
   refine oas ?_
   refine oas ?_
   refine nq ?_
   refine W.ret ?_
   refine WQ.then_ret ?_
   refine WQ.ret2 Try.results26 (.tmp rfl) (.tmp rfl) ?_
   intro w' hp; exact ⟨by first | rfl | (simp; done) | (simp [*]; done) | simp_all, hp.forget⟩
 · refine W.region ?_
   refine omv ?_
   refine ov (v2 V_lss) ?_
   refine omv ?_
   refine oy rfl (decide_eq_false h1) ?_
   refine omv ?_
   refine oy rfl (decide_eq_false h1) ?_
   refine ov (v2 V_gtr) ?_
   refine ov (V_pick_f rfl (decide_eq_false h1) rfl) ?_
   refine nq ?_
   refine W.cond_true rfl (decide_eq_true (by omega)) ?_
   refine sr ?_
   refine oas ?_
   refine oas ?_
   refine nq ?_
   refine W.ret ?_
   refine WQ.then_ret ?_
   refine WQ.ret2 Try.results26 (.tmp rfl) (.tmp rfl) ?_
   intro w' hp; exact ⟨by first | rfl | (simp; done) | (simp [*]; done) | simp_all, hp.forget⟩

end Go.Proofs.Ytmeckbjinmgbbaa