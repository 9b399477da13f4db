/-
  StampEpochs: for any root, any envelope and any two numbers: the law returns true, and changes nothing that was there. No condition.
-/
import Derived.Test.YtbalnjejamigaaaRows
import Derived.Test.YtbalnjejamigaaaLaws16
import Derived.Test.YtbalnjejamigaaaX7
import Derived.WalkKit
import Derived.ProofKit
import Derived.OpenShut
import Derived.ShutString
import Derived.ChangeOld
import Derived.Below
set_option linter.unusedVariables false
set_option linter.unusedSimpArgs false
namespace Go.Proofs.Ytbalnjejamigaaa.stampEpochs
open Go.ChangeShapes Go.WideShapes Go.ChangeAt Go.RowKit
set_option linter.unusedVariables false

theorem own : ownKnob Try.prog.godebug = none := by kernel_rfl
theorem laidOut : laidOutB Try.prog = true := by kernel_rfl

theorem walk (l0 : List Int) (a1_0 : Int) (a1_1 : Int) (l1_2 : List Int) (l1_3_0 : List Int) (a1_3_1 : Int) (a1_3_2 : Int) (a1_4 : Option Addr) (len1_4 cap1_4 : Nat) (l1_4 : List Int) (l2 : List Int) (w : World) (e0 : l0.length = 32) (w0 : ∀ c ∈ l0, (Lit.int .u8 c).wf = true) (w1_0 : (Lit.int .i64 a1_0).wf = true) (w1_1 : (Lit.int .i64 a1_1).wf = true) (e1_2 : l1_2.length = 32) (w1_2 : ∀ c ∈ l1_2, (Lit.int .u8 c).wf = true) (e1_3_0 : l1_3_0.length = 32) (w1_3_0 : ∀ c ∈ l1_3_0, (Lit.int .u8 c).wf = true) (w1_3_1 : (Lit.int .i64 a1_3_1).wf = true) (w1_3_2 : (Lit.int .i64 a1_3_2).wf = true) (c1_4 : len1_4 ≤ cap1_4) (m1_4 : cap1_4 ≤ maxLen) (s1_4 : X.SrW w 1 a1_4 len1_4 (X.iv .u8 l1_4)) (w1_4 : ∀ c ∈ l1_4, (Lit.int .u8 c).wf = true) (e2 : l2.length = 2) (w2 : ∀ c ∈ l2, (Lit.int .i64 c).wf = true) :
    Calls Try.prog 14 #[X.AG [(32, X.iv .u8 l0)], X.AG [(1, [.int .i64 a1_0]), (1, [.int .i64 a1_1]), (32, X.iv .u8 l1_2), (32, X.iv .u8 l1_3_0), (1, [.int .i64 a1_3_1]), (1, [.int .i64 a1_3_2]), (1, [.slice a1_4 len1_4 cap1_4])], X.AG [(2, X.iv .i64 l2)]] w fun e w' => e = .returned (.bool true) ∧ Below w.heap.size w w' := by
  exact (stampEpochs_calls l0 e0 (wfB16 w0) ⟨a1_0, a1_1, l1_2, l1_3_0, a1_3_1, a1_3_2, .slice a1_4 len1_4 cap1_4⟩ e1_2 (wfB16 w1_2) e1_3_0 l2 e2 w).mono fun e w' ⟨he, hp⟩ => ⟨he, hp.below⟩

set_option maxRecDepth 100000 in
theorem lifted (os : Os) (started : os.Started) (H : Type) (enc : TypeId × Value → H) :
    ReturnsInHanded {} Try.checked os 14 .any (Rows.stampEpochsSpec.pre6 enc Try.prog Try.f14 Rows.stampEpochsRow.domain false) (Rows.stampEpochsSpec.post enc Try.prog Try.f14 false true false false) := by
  refine returnsInHanded_of_change (C := Try.checked) own started (by kernel_rfl) Try.func14
    (ChangeSpec.witness6 (enc := enc) (C := Try.checked) false ⟨#[], #[.agg (List.replicate 32 (Value.int .u8 0)).toArray, .agg ([Value.int .i64 0] ++ [Value.int .i64 0] ++ List.replicate 32 (Value.int .u8 0) ++ List.replicate 32 (Value.int .u8 0) ++ [Value.int .i64 0] ++ [Value.int .i64 0] ++ [Value.slice none 0 0]).toArray, .agg (List.replicate 2 (Value.int .i64 0)).toArray], []⟩ 8 (by kernel_rfl) (by kernel_rfl) (by kernel_rfl) (by kernel_rfl)) ?_
  intro W base args ds gs before hval0 hW hcnd _
  have hval : ∀ (j : Nat) t v, Try.f14.params[j]? = some t → args[j]? = some v → Value.okWide Try.prog W .any base t v := hval0
  have hW' := hW
  obtain ⟨p, q, hA0, hV, rfl, hfz, hnd⟩ := hW
  have hA : DataW.TrodAll enc Try.prog W 0 (fun _ => true) true Try.f14.params.toList args.toList ds p := hA0
  rw [Try.params14] at hA hval
  obtain ⟨v0, vs0, d0, ds0, p0, q0, hargs, rfl, rfl, h0, r0⟩ := trodAll_cons hA
  obtain ⟨v1, vs1, d1, ds1, p1, q1, rfl, rfl, rfl, h1, r1⟩ := trodAll_cons r0
  obtain ⟨v2, vs2, d2, ds2, p2, q2, rfl, rfl, rfl, h2, r2⟩ := trodAll_cons r1
  obtain ⟨rfl, rfl, rfl⟩ := trodAll_nil r2
  obtain rfl : args = #[v0, v1, v2] := by cases args; simp_all
  obtain ⟨rfl, rfl⟩ := trodVars_none hV
  have k0 := h0
  have lt0 : ∀ x ∈ p0, x.block < W.heap.size := by obtain ⟨m, hm⟩ := k0; exact DataW.trod_lt m _ _ _ hm
  have O0 := (X.open_D (d := (.arr 32 (.int .u8))) (by kernel_rfl) h0).1
  obtain ⟨cs0, rfl⟩ : ∃ cs, v0 = .agg cs := by
    have := hval 0 25 v0 rfl rfl
    simp only [Value.okWide, Try.underlying25] at this
    obtain ⟨cs, h, _⟩ := this
    exact ⟨cs, h⟩
  simp only [Value.cells] at O0
  obtain ⟨C0, hC0⟩ : ∃ C, C = cs0.toList := ⟨_, rfl⟩
  rw [← hC0] at O0
  obtain ⟨l0, rfl, e0, w0⟩ := X.okD_arr O0
  obtain rfl : cs0 = (X.flat [(32, X.iv .u8 l0)]).toArray := by
    apply Array.ext'
    rw [← hC0]
    simp [X.flat]
  have k1 := h1
  have lt1 : ∀ x ∈ p1, x.block < W.heap.size := by obtain ⟨m, hm⟩ := k1; exact DataW.trod_lt m _ _ _ hm
  have O1 := (X.open_D (d := (.fcons (.int .i64) (.fcons (.int .i64) (.fcons (.arr 32 (.int .u8)) (.fcons (.fcons (.arr 32 (.int .u8)) (.fcons (.int .i64) (.fcons (.int .i64) .fnil))) (.fcons (.sl (.int .u8)) .fnil)))))) (by kernel_rfl) h1).1
  obtain ⟨cs1, rfl⟩ : ∃ cs, v1 = .agg cs := by
    have := hval 1 51 v1 rfl rfl
    simp only [Value.okWide, Try.underlying51] at this
    obtain ⟨cs, h, _⟩ := this
    exact ⟨cs, h⟩
  simp only [Value.cells] at O1
  obtain ⟨C1, hC1⟩ : ∃ C, C = cs1.toList := ⟨_, rfl⟩
  rw [← hC1] at O1
  obtain ⟨x1_0, y1_0, z1_0, o1_0, p1_0⟩ := X.okD_fcons O1
  obtain ⟨a1_0, rfl, w1_0⟩ := o1_0
  obtain ⟨x1_1, y1_1, z1_1, o1_1, p1_1⟩ := X.okD_fcons p1_0
  obtain ⟨a1_1, rfl, w1_1⟩ := o1_1
  obtain ⟨x1_2, y1_2, z1_2, o1_2, p1_2⟩ := X.okD_fcons p1_1
  obtain ⟨l1_2, rfl, e1_2, w1_2⟩ := X.okD_arr o1_2
  obtain ⟨x1_3, y1_3, z1_3, o1_3, p1_3⟩ := X.okD_fcons p1_2
  obtain ⟨x1_3_0, y1_3_0, z1_3_0, o1_3_0, p1_3_0⟩ := X.okD_fcons o1_3
  obtain ⟨l1_3_0, rfl, e1_3_0, w1_3_0⟩ := X.okD_arr o1_3_0
  obtain ⟨x1_3_1, y1_3_1, z1_3_1, o1_3_1, p1_3_1⟩ := X.okD_fcons p1_3_0
  obtain ⟨a1_3_1, rfl, w1_3_1⟩ := o1_3_1
  obtain ⟨x1_3_2, y1_3_2, z1_3_2, o1_3_2, p1_3_2⟩ := X.okD_fcons p1_3_1
  obtain ⟨a1_3_2, rfl, w1_3_2⟩ := o1_3_2
  have q1_3 := p1_3_2
  obtain ⟨x1_4, y1_4, z1_4, o1_4, p1_4⟩ := X.okD_fcons p1_3
  obtain ⟨a1_4, len1_4, cap1_4, rfl⟩ : ∃ a n c, x1_4 = [Value.slice a n c] := by obtain ⟨a, n, c, h, _⟩ := o1_4; exact ⟨a, n, c, h⟩
  obtain ⟨c1_4, m1_4, l1_4, s1_4, w1_4⟩ := X.okD_ints o1_4
  have q1 := p1_4
  obtain rfl : cs1 = (X.flat [(1, [.int .i64 a1_0]), (1, [.int .i64 a1_1]), (32, X.iv .u8 l1_2), (32, X.iv .u8 l1_3_0), (1, [.int .i64 a1_3_1]), (1, [.int .i64 a1_3_2]), (1, [.slice a1_4 len1_4 cap1_4])]).toArray := by
    apply Array.ext'
    rw [← hC1]
    simp [X.flat, z1_0, z1_1, z1_2, z1_3, z1_3_0, z1_3_1, z1_3_2, (show _ = [] from q1_3), z1_4, (show _ = [] from q1)]
  have k2 := h2
  have lt2 : ∀ x ∈ p2, x.block < W.heap.size := by obtain ⟨m, hm⟩ := k2; exact DataW.trod_lt m _ _ _ hm
  have O2 := (X.open_D (d := (.arr 2 (.int .i64))) (by kernel_rfl) h2).1
  obtain ⟨cs2, rfl⟩ : ∃ cs, v2 = .agg cs := by
    have := hval 2 47 v2 rfl rfl
    simp only [Value.okWide, Try.underlying47] at this
    obtain ⟨cs, h, _⟩ := this
    exact ⟨cs, h⟩
  simp only [Value.cells] at O2
  obtain ⟨C2, hC2⟩ : ∃ C, C = cs2.toList := ⟨_, rfl⟩
  rw [← hC2] at O2
  obtain ⟨l2, rfl, e2, w2⟩ := X.okD_arr O2
  obtain rfl : cs2 = (X.flat [(2, X.iv .i64 l2)]).toArray := by
    apply Array.ext'
    rw [← hC2]
    simp [X.flat]
  clear hA0 hval0
  refine (walk l0 a1_0 a1_1 l1_2 l1_3_0 a1_3_1 a1_3_2 a1_4 len1_4 cap1_4 l1_4 l2 W e0 w0 w1_0 w1_1 e1_2 w1_2 e1_3_0 w1_3_0 w1_3_1 w1_3_2 c1_4 m1_4 s1_4 w1_4 e2 w2).mono fun e W' ⟨he, bel⟩ => ?_
  subst he
  exact ⟨_, rfl, _, _, _, [], _, [], hW', trodAll_mk1 (shut_bool Try.underlying4 _), (trodAll_cons_mk (Below.trod laidOut (by kernel_rfl) (of_decide_eq_true (by kernel_rfl)) k0 bel lt0) (trodAll_cons_mk (Below.trod laidOut (by kernel_rfl) (of_decide_eq_true (by kernel_rfl)) k1 bel lt1) (trodAll_cons_mk (Below.trod laidOut (by kernel_rfl) (of_decide_eq_true (by kernel_rfl)) k2 bel lt2) trodAll_mk0))), rfl, bel.frame _, fun h => by cases h⟩

theorem over : Rows.stampEpochsRow.holds Try.pinned (OpenSpec.ofChange Rows.stampEpochsSpec) :=
  OpenClaim.holds_of_wide 14 Try.f14 rfl rfl rfl rfl rfl rfl rfl ⟨rfl, rfl, rfl, rfl, rfl⟩ rfl rfl rfl rfl rfl (by kernel_rfl) Try.func14 (by kernel_rfl)
    (of_decide_eq_true (by kernel_rfl)) (by unfold Func.isWrapper; first | (rw [if_pos (by decide +kernel)]; kernel_rfl) | (rw [if_neg (by decide +kernel)]; exact ⟨rfl, rfl⟩))
    (fun os started H enc _ => lifted os started H enc)

theorem proved : Rows.StampEpochsSaid := over
#print axioms proved
end Go.Proofs.Ytbalnjejamigaaa.stampEpochs
