/- BLAKE2s: sums, checks, and the laws' first look. -/
import Derived.Test.YtmeckbjinmgbbaaGreatRMac
set_option linter.unusedVariables false
set_option linter.unusedSimpArgs false

namespace Go.Proofs.YtmeckbjinmgbbaaGreat
open Go.X
theorem orI8 {o x y : Int} (ho : 0 ≤ o ∧ o ≤ 255) (hx : 0 ≤ x ∧ x ≤ 255) (hy : 0 ≤ y ∧ y ≤ 255) : (0 ≤ orI .u8 o (xorI .u8 x y) ∧ orI .u8 o (xorI .u8 x y) ≤ 255) ∧ (orI .u8 o (xorI .u8 x y) = 0 ↔ o = 0 ∧ x = y) := by
  obtain ⟨o, rfl⟩ := Int.eq_ofNat_of_zero_le ho.1
  obtain ⟨x, rfl⟩ := Int.eq_ofNat_of_zero_le hx.1
  obtain ⟨y, rfl⟩ := Int.eq_ofNat_of_zero_le hy.1
  have hb : IntKind.u8.bits = 8 := rfl
  have e1 : ∀ a : Nat, a ≤ 255 → (BitVec.ofInt IntKind.u8.bits (a : Int)).toNat = a := fun a ha => by
    rw [BitVec.ofInt_natCast, BitVec.toNat_ofNat, hb, Nat.mod_eq_of_lt (by omega)]
  have ox : o < 2 ^ 8 := by omega
  have hxx : x < 2 ^ 8 := by omega
  have hyy : y < 2 ^ 8 := by omega
  have x1 : xorI .u8 (x : Int) (y : Int) = ((x ^^^ y : Nat) : Int) := by
    unfold xorI
    rw [BitVec.toNat_xor, e1 x (by omega), e1 y (by omega), Go.IntWalk.u8_in _ (by have := Nat.xor_lt_two_pow hxx hyy; omega)]
  have hxy := Nat.xor_lt_two_pow hxx hyy
  have o1 : orI .u8 (o : Int) ((x ^^^ y : Nat) : Int) = ((o ||| (x ^^^ y) : Nat) : Int) := by
    unfold orI
    rw [BitVec.toNat_or, e1 o (by omega), e1 (x ^^^ y) (by omega), Go.IntWalk.u8_in _ (by have := Nat.or_lt_two_pow ox hxy; omega)]
  rw [x1, o1]
  have hor := Nat.or_lt_two_pow ox hxy
  refine ⟨by omega, ?_⟩
  constructor
  · intro h
    have h : o ||| (x ^^^ y) = 0 := by omega
    have h1 : o = 0 := by
      have := Nat.or_eq_zero_iff.1 h; exact this.1
    have h2 : x ^^^ y = 0 := (Nat.or_eq_zero_iff.1 h).2
    have h3 : x = y := by
      have h4 : x ^^^ y ^^^ y = x := by rw [Nat.xor_assoc, Nat.xor_self, Nat.xor_zero]
      rw [h2, Nat.zero_xor] at h4; exact h4.symm
    omega
  · rintro ⟨h1, h2⟩
    have h1 : o = 0 := by omega
    have h2 : x = y := by omega
    subst h1; subst h2; simp

theorem same_calls (A BA : Option Addr) (n ca m cb : Nat) (la lb : List Int) (w : World) (ha : SrW w 1 A n (iv .u8 la)) (hab : bytes la) (hb : SrW w 1 BA m (iv .u8 lb)) (hbb : bytes lb) (hn : n ≤ 4000000) :
    Calls Tryz.prog 110 [.slice A n ca, .slice BA m cb].toArray w fun e w' => e = .returned (.bool (decide (la = lb))) ∧ HP w w' [] [] := by
  have hla : la.length = n := by have := ha.1; rw [iv_len] at this; omega
  have hlb : lb.length = m := by have := hb.1; rw [iv_len] at this; omega
  refine calls_of_W Tryz.func110 rfl Tryz.ntmps110 rfl rfl (HP.refl w []) ?_
  refine W.seq ?_
  refine W.region ?_
  refine WL.as rfl rfl ?_
  refine WL.nil ?_
  refine WQ.then ?_
  refine W.seq ?_
  refine W.seq ?_
  refine W.region ?_
  refine WL.mv rfl rfl ?_
  refine WL.val rfl (V_lenS (by kernel_rfl) rfl) ?_
  refine WL.mv rfl rfl ?_
  refine WL.val rfl (V_lenS (by kernel_rfl) rfl) ?_
  refine WL.val rfl (V_neq rfl rfl) ?_
  refine WL.nil ?_
  refine WQ.then ?_
  refine W.cond_dec rfl (fun g1 => ?_) (fun g1 => ?_)
  ·
    refine W.seq ?_
    refine W.region ?_
    refine WL.as rfl rfl ?_
    refine WL.nil ?_
    refine WQ.then ?_
    refine W.ret ?_
    refine WQ.then_ret ?_
    refine WQ.ret1 Tryz.results110 (.tmp rfl) ?_
    intro w' hp; rw [decide_eq_false (by intro h; rw [h] at hla; omega)]; exact ⟨rfl, hp.forget⟩
  ·
    refine W.skip ?_
    refine WQ.then ?_
    refine W.seq ?_
    refine W.region ?_
    refine WL.as rfl rfl ?_
    refine WL.nil ?_
    refine WQ.then ?_
    refine W.seq ?_
    refine W.seq ?_
    refine W.region ?_
    refine WL.mv rfl rfl ?_
    refine WL.val rfl (V_lenS (by kernel_rfl) rfl) ?_
    refine WL.mv rfl rfl ?_
    refine WL.nil ?_
    refine WQ.then ?_
    refine W.block ?_
    -- LOOP
    refine W.pick [0, 1, 5, 13, 14] rfl ?_
    refine W.loop (σ := Nat × Int) (fun s => s.1 ≤ n ∧ (0 ≤ s.2 ∧ s.2 ≤ 255) ∧ (s.2 = 0 ↔ la.take s.1 = lb.take s.1)) (fun s => [(0, .slice A n ca), (1, .slice BA m cb), (5, .int .u8 s.2), (13, .int .i64 n), (14, .int .i64 s.1)]) (fun _ => []) (fun s => n - s.1) (0, 0) rfl rfl ⟨Nat.zero_le _, by simp, by simp⟩ ?_
    rintro ⟨i, o⟩ ⟨hi, ho⟩; dsimp only at hi ho ⊢
    refine W.seq ?_
    refine W.region ?_
    refine WL.val rfl (V_lss rfl rfl) ?_
    refine WL.nil ?_
    refine WQ.then ?_
    refine W.seq ?_
    refine W.cond_dec rfl (fun g2 => ?_) (fun g2 => ?_)
    ·
      refine W.skip ?_
      refine WQ.then ?_
      refine W.seq ?_
      refine W.block ?_
      refine W.seq ?_
      refine W.region ?_
      obtain ⟨ab, ao, rfl⟩ := ha.has (by rw [iv_len]; omega); obtain ⟨bb, bo, rfl⟩ := hb.has (by rw [iv_len]; omega); have h8 := orI8 ho.1 (hab.get i) (hbb.get i)
      refine WL.mv rfl rfl ?_
      refine WL.as rfl rfl ?_
      refine WL.nil ?_
      refine WQ.then ?_
      refine W.drawn (.q 0 (.q 1 (.q 2 (.q 3 (.q 4 (.q 5 (.q 6 (.q 7 (.q 8 (.q 9 (.q 10 (.q 11 (.done))))))))))))) [] (by kernel_rfl) (fun _ a d _ _ h => by cases d <;> exact h) (by kernel_rfl) (by repeat (first | exact List.Sublist.refl _ | exact List.nil_sublist _ | refine List.Sublist.cons_cons _ ?_ | refine List.Sublist.cons _ ?_)) ?_
      refine WD.q rfl rfl (V_move rfl) ?_
      refine WD.q rfl rfl (V_move rfl) ?_
      refine WD.q rfl rfl (V_move rfl) ?_
      refine WD.q rfl rfl (V_indexAddrS 1 (by kernel_rfl) rfl rfl (by omega) (by omega)) ?_
      refine WD.q rfl rfl (V_loadSrI i ha.old0 (by kernel_rfl) rfl (by simp) (by omega)) ?_
      refine WD.q rfl rfl (V_move rfl) ?_
      refine WD.q rfl rfl (V_move rfl) ?_
      refine WD.q rfl rfl (V_indexAddrS 1 (by kernel_rfl) rfl rfl (by omega) (by omega)) ?_
      refine WD.q rfl rfl (V_loadSrI i hb.old0 (by kernel_rfl) rfl (by simp) (by omega)) ?_
      refine WD.q rfl rfl (V_xor rfl rfl) ?_
      refine WD.q rfl rfl (V_or rfl rfl) ?_
      refine WD.q rfl rfl (V_assign rfl) ?_
      refine WD.done ?_
      refine WQ.block_normal ?_
      refine WQ.then ?_
      refine W.region ?_
      first | refine WL.val rfl (V_addN rfl rfl (by omega)) ?_ | refine WL.val rfl (V_add rfl rfl) ?_
      refine WL.mv rfl rfl ?_
      refine WL.nil ?_
      exact WQ.again (i + 1, orI .u8 o (xorI .u8 (la.getD i 0) (lb.getD i 0))) [0, 1, 5, 13, 14] (by refine ⟨by show i + 1 ≤ n; omega, h8.1, ?_⟩; dsimp only; rw [h8.2, ho.2, take_snoc (by omega), take_snoc (by omega)]; constructor; (· rintro ⟨h1, h2⟩; rw [h1, h2]); (· intro h; have := List.append_inj h (by simp; omega); exact ⟨this.1, by simpa using this.2⟩)) (by show n - (i + 1) < n - i; omega) rfl (by repeat (first | exact List.Sublist.refl _ | exact List.nil_sublist _ | refine List.Sublist.cons_cons _ ?_ | refine List.Sublist.cons _ ?_))
    ·
      refine W.exit ?_
      refine WQ.then_exit ?_
      refine WQ.then_exit ?_
      refine WQ.block_hit ?_
      refine WQ.then ?_
      refine W.seq ?_
      refine W.region ?_
      refine WL.mv rfl rfl ?_
      refine WL.val rfl (V_eql rfl rfl) ?_
      refine WL.as rfl rfl ?_
      refine WL.nil ?_
      refine WQ.then ?_
      refine W.ret ?_
      refine WQ.ret1 Tryz.results110 (.tmp rfl) ?_
      intro w' hp; refine ⟨?_, hp.forget⟩; have h2 := ho.2; rw [List.take_of_length_le (by omega), List.take_of_length_le (by omega)] at h2; simp only [h2]

end Go.Proofs.YtmeckbjinmgbbaaGreat