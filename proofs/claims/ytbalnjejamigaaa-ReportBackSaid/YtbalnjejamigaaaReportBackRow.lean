/-
  ReportBack: for any report and any bytes: the law returns true, and changes nothing that was there. No condition.
-/
import Derived.Test.YtbalnjejamigaaaRows
import Derived.Test.YtbalnjejamigaaaLaws17
import Derived.Test.YtbalnjejamigaaaXB
import Derived.WalkKit
import Derived.ProofKit
import Derived.OpenShut
import Derived.ShutString
import Derived.ChangeOld
import Derived.Below
set_option linter.unusedVariables false
set_option linter.unusedSimpArgs false

namespace Go.Proofs.Ytbalnjejamigaaa.reportBack
open Go.ChangeShapes Go.WideShapes Go.ChangeAt Go.RowKit
set_option linter.unusedVariables false

theorem own : ownKnob Try.prog.godebug = none := by kernel_rfl
theorem laidOut : laidOutB Try.prog = true := by kernel_rfl

theorem walk (a0_0 : Int) (a0_1 : Int) (a0_2 : Option Addr) (len0_2 cap0_2 : Nat) (l0_2 : List Int) (l0_3 : List Int) (a0_4_0 : Int) (a0_4_1 : Int) (a0_4_2 : Int) (a0_4_3 : Int) (l0_4_4 : List Int) (l0_4_5 : List Int) (a1 : Option Addr) (len1 cap1 : Nat) (l1 : List Int) (w : World) (w0_0 : (Lit.int .i64 a0_0).wf = true) (w0_1 : (Lit.int .i64 a0_1).wf = true) (c0_2 : len0_2 ≤ cap0_2) (m0_2 : cap0_2 ≤ maxLen) (s0_2 : X.SrW w 1 a0_2 len0_2 (X.iv .u8 l0_2)) (w0_2 : ∀ c ∈ l0_2, (Lit.int .u8 c).wf = true) (e0_3 : l0_3.length = 32) (w0_3 : ∀ c ∈ l0_3, (Lit.int .u8 c).wf = true) (w0_4_0 : (Lit.int .i64 a0_4_0).wf = true) (w0_4_1 : (Lit.int .i64 a0_4_1).wf = true) (w0_4_2 : (Lit.int .i64 a0_4_2).wf = true) (w0_4_3 : (Lit.int .i64 a0_4_3).wf = true) (e0_4_4 : l0_4_4.length = 32) (w0_4_4 : ∀ c ∈ l0_4_4, (Lit.int .u8 c).wf = true) (e0_4_5 : l0_4_5.length = 32) (w0_4_5 : ∀ c ∈ l0_4_5, (Lit.int .u8 c).wf = true) (c1 : len1 ≤ cap1) (m1 : cap1 ≤ maxLen) (s1 : X.SrW w 1 a1 len1 (X.iv .u8 l1)) (w1 : ∀ c ∈ l1, (Lit.int .u8 c).wf = true) :
    Calls Try.prog 18 #[X.AG [(1, [.int .i64 a0_0]), (1, [.int .i64 a0_1]), (1, [.slice a0_2 len0_2 cap0_2]), (32, X.iv .u8 l0_3), (1, [.int .i64 a0_4_0]), (1, [.int .i64 a0_4_1]), (1, [.int .i64 a0_4_2]), (1, [.int .i64 a0_4_3]), (32, X.iv .u8 l0_4_4), (32, X.iv .u8 l0_4_5)], .slice a1 len1 cap1] w fun e w' => e = .returned (.bool true) ∧ Below w.heap.size w w' := by
  exact (reportBack_calls ⟨a0_0, a0_1, a0_2, len0_2, cap0_2, l0_2, l0_3, ⟨a0_4_0, a0_4_1, a0_4_2, a0_4_3, l0_4_4, l0_4_5⟩⟩ ⟨e0_3, wfB16 w0_3, e0_4_4, wfB16 w0_4_4, e0_4_5, wfB16 w0_4_5, wfB16 w0_2, c0_2⟩ a1 len1 cap1 l1 w s0_2 s1 (wfB16 w1) c1).mono fun e w' ⟨he, hp⟩ => ⟨he, hp.below⟩

set_option maxRecDepth 100000 in
theorem lifted (os : Os) (started : os.Started) (H : Type) (enc : TypeId × Value → H) :
    ReturnsInHanded {} Try.checked os 18 .any (Rows.reportBackSpec.pre6 enc Try.prog Try.f18 Rows.reportBackRow.domain false) (Rows.reportBackSpec.post enc Try.prog Try.f18 false true false false) := by
  refine returnsInHanded_of_change (C := Try.checked) own started (by kernel_rfl) Try.func18
    (ChangeSpec.witness6 (enc := enc) (C := Try.checked) false ⟨#[], #[.agg ([Value.int .i64 0] ++ [Value.int .i64 0] ++ [Value.slice none 0 0] ++ List.replicate 32 (Value.int .u8 0) ++ [Value.int .i64 0] ++ [Value.int .i64 0] ++ [Value.int .i64 0] ++ [Value.int .i64 0] ++ List.replicate 32 (Value.int .u8 0) ++ List.replicate 32 (Value.int .u8 0)).toArray, .slice none 0 0], []⟩ 8 (by kernel_rfl) (by kernel_rfl) (by kernel_rfl) (by kernel_rfl)) ?_
  intro W base args ds gs before hval0 hW hcnd _
  have hval : ∀ (j : Nat) t v, Try.f18.params[j]? = some t → args[j]? = some v → Value.okWide Try.prog W .any base t v := hval0
  have hW' := hW
  obtain ⟨p, q, hA0, hV, rfl, hfz, hnd⟩ := hW
  have hA : DataW.TrodAll enc Try.prog W 0 (fun _ => true) true Try.f18.params.toList args.toList ds p := hA0
  rw [Try.params18] at hA hval
  obtain ⟨v0, vs0, d0, ds0, p0, q0, hargs, rfl, rfl, h0, r0⟩ := trodAll_cons hA
  obtain ⟨v1, vs1, d1, ds1, p1, q1, rfl, rfl, rfl, h1, r1⟩ := trodAll_cons r0
  obtain ⟨rfl, rfl, rfl⟩ := trodAll_nil r1
  obtain rfl : args = #[v0, v1] := by cases args; simp_all
  obtain ⟨rfl, rfl⟩ := trodVars_none hV
  have k0 := h0
  have lt0 : ∀ x ∈ p0, x.block < W.heap.size := by obtain ⟨m, hm⟩ := k0; exact DataW.trod_lt m _ _ _ hm
  have O0 := (X.open_D (d := (.fcons (.int .i64) (.fcons (.int .i64) (.fcons (.sl (.int .u8)) (.fcons (.arr 32 (.int .u8)) (.fcons (.fcons (.int .i64) (.fcons (.int .i64) (.fcons (.int .i64) (.fcons (.int .i64) (.fcons (.arr 32 (.int .u8)) (.fcons (.arr 32 (.int .u8)) .fnil)))))) .fnil)))))) (by kernel_rfl) h0).1
  obtain ⟨cs0, rfl⟩ : ∃ cs, v0 = .agg cs := by
    have := hval 0 73 v0 rfl rfl
    simp only [Value.okWide, Try.underlying73] at this
    obtain ⟨cs, h, _⟩ := this
    exact ⟨cs, h⟩
  simp only [Value.cells] at O0
  obtain ⟨C0, hC0⟩ : ∃ C, C = cs0.toList := ⟨_, rfl⟩
  rw [← hC0] at O0
  obtain ⟨x0_0, y0_0, z0_0, o0_0, p0_0⟩ := X.okD_fcons O0
  obtain ⟨a0_0, rfl, w0_0⟩ := o0_0
  obtain ⟨x0_1, y0_1, z0_1, o0_1, p0_1⟩ := X.okD_fcons p0_0
  obtain ⟨a0_1, rfl, w0_1⟩ := o0_1
  obtain ⟨x0_2, y0_2, z0_2, o0_2, p0_2⟩ := X.okD_fcons p0_1
  obtain ⟨a0_2, len0_2, cap0_2, rfl⟩ : ∃ a n c, x0_2 = [Value.slice a n c] := by obtain ⟨a, n, c, h, _⟩ := o0_2; exact ⟨a, n, c, h⟩
  obtain ⟨c0_2, m0_2, l0_2, s0_2, w0_2⟩ := X.okD_ints o0_2
  obtain ⟨x0_3, y0_3, z0_3, o0_3, p0_3⟩ := X.okD_fcons p0_2
  obtain ⟨l0_3, rfl, e0_3, w0_3⟩ := X.okD_arr o0_3
  obtain ⟨x0_4, y0_4, z0_4, o0_4, p0_4⟩ := X.okD_fcons p0_3
  obtain ⟨x0_4_0, y0_4_0, z0_4_0, o0_4_0, p0_4_0⟩ := X.okD_fcons o0_4
  obtain ⟨a0_4_0, rfl, w0_4_0⟩ := o0_4_0
  obtain ⟨x0_4_1, y0_4_1, z0_4_1, o0_4_1, p0_4_1⟩ := X.okD_fcons p0_4_0
  obtain ⟨a0_4_1, rfl, w0_4_1⟩ := o0_4_1
  obtain ⟨x0_4_2, y0_4_2, z0_4_2, o0_4_2, p0_4_2⟩ := X.okD_fcons p0_4_1
  obtain ⟨a0_4_2, rfl, w0_4_2⟩ := o0_4_2
  obtain ⟨x0_4_3, y0_4_3, z0_4_3, o0_4_3, p0_4_3⟩ := X.okD_fcons p0_4_2
  obtain ⟨a0_4_3, rfl, w0_4_3⟩ := o0_4_3
  obtain ⟨x0_4_4, y0_4_4, z0_4_4, o0_4_4, p0_4_4⟩ := X.okD_fcons p0_4_3
  obtain ⟨l0_4_4, rfl, e0_4_4, w0_4_4⟩ := X.okD_arr o0_4_4
  obtain ⟨x0_4_5, y0_4_5, z0_4_5, o0_4_5, p0_4_5⟩ := X.okD_fcons p0_4_4
  obtain ⟨l0_4_5, rfl, e0_4_5, w0_4_5⟩ := X.okD_arr o0_4_5
  have q0_4 := p0_4_5
  have q0 := p0_4
  obtain rfl : cs0 = (X.flat [(1, [.int .i64 a0_0]), (1, [.int .i64 a0_1]), (1, [.slice a0_2 len0_2 cap0_2]), (32, X.iv .u8 l0_3), (1, [.int .i64 a0_4_0]), (1, [.int .i64 a0_4_1]), (1, [.int .i64 a0_4_2]), (1, [.int .i64 a0_4_3]), (32, X.iv .u8 l0_4_4), (32, X.iv .u8 l0_4_5)]).toArray := by
    apply Array.ext'
    rw [← hC0]
    simp [X.flat, z0_0, z0_1, z0_2, z0_3, z0_4, z0_4_0, z0_4_1, z0_4_2, z0_4_3, z0_4_4, z0_4_5, (show _ = [] from q0_4), (show _ = [] from q0)]
  have k1 := h1
  have lt1 : ∀ x ∈ p1, x.block < W.heap.size := by obtain ⟨m, hm⟩ := k1; exact DataW.trod_lt m _ _ _ hm
  have O1 := (X.open_D (d := (.sl (.int .u8))) (by kernel_rfl) h1).1
  obtain ⟨a1, len1, cap1, rfl⟩ := okWide_slice Try.underlying22 (hval 1 22 v1 rfl rfl)
  obtain ⟨c1, m1, l1, s1, w1⟩ := X.okD_ints O1
  clear hA0 hval0
  refine (walk a0_0 a0_1 a0_2 len0_2 cap0_2 l0_2 l0_3 a0_4_0 a0_4_1 a0_4_2 a0_4_3 l0_4_4 l0_4_5 a1 len1 cap1 l1 W w0_0 w0_1 c0_2 m0_2 s0_2 w0_2 e0_3 w0_3 w0_4_0 w0_4_1 w0_4_2 w0_4_3 e0_4_4 w0_4_4 e0_4_5 w0_4_5 c1 m1 s1 w1).mono fun e W' ⟨he, bel⟩ => ?_
  subst he
  exact ⟨_, rfl, _, _, _, [], _, [], hW', trodAll_mk1 (shut_bool Try.underlying4 _), (trodAll_cons_mk (Below.trod laidOut (by kernel_rfl) (of_decide_eq_true (by kernel_rfl)) k0 bel lt0) (trodAll_cons_mk (Below.trod laidOut (by kernel_rfl) (of_decide_eq_true (by kernel_rfl)) k1 bel lt1) trodAll_mk0)), rfl, bel.frame _, fun h => by cases h⟩

theorem over : Rows.reportBackRow.holds Try.pinned (OpenSpec.ofChange Rows.reportBackSpec) :=
  OpenClaim.holds_of_wide 18 Try.f18 rfl rfl rfl rfl rfl rfl rfl ⟨rfl, rfl, rfl, rfl, rfl⟩ rfl rfl rfl rfl rfl (by kernel_rfl) Try.func18 (by kernel_rfl)
    (of_decide_eq_true (by kernel_rfl)) (by unfold Func.isWrapper; first | (rw [if_pos (by decide +kernel)]; kernel_rfl) | (rw [if_neg (by decide +kernel)]; exact ⟨rfl, rfl⟩))
    (fun os started H enc _ => lifted os started H enc)

theorem proved : Rows.ReportBackSaid := over
#print axioms proved
end Go.Proofs.Ytbalnjejamigaaa.reportBack
