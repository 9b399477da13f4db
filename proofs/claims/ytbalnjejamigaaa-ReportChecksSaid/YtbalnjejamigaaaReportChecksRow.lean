/-
  ReportChecks: for any root, any report and any time: the law returns true, and changes nothing that was there. No condition.
-/
import Derived.Test.YtbalnjejamigaaaRows
import Derived.Test.YtbalnjejamigaaaLaws17
import Derived.Test.YtbalnjejamigaaaXB
import Derived.WalkKit
import Derived.ProofKit
import Derived.OpenShut
import Derived.ShutString
import Derived.ChangeOld
import Derived.Below
set_option linter.unusedVariables false
set_option linter.unusedSimpArgs false

namespace Go.Proofs.Ytbalnjejamigaaa.reportChecks
open Go.ChangeShapes Go.WideShapes Go.ChangeAt Go.RowKit
set_option linter.unusedVariables false

theorem own : ownKnob Try.prog.godebug = none := by kernel_rfl
theorem laidOut : laidOutB Try.prog = true := by kernel_rfl

theorem walk (l0 : List Int) (a1_0 : Int) (a1_1 : Int) (a1_2 : Option Addr) (len1_2 cap1_2 : Nat) (l1_2 : List Int) (l1_3 : List Int) (a1_4_0 : Int) (a1_4_1 : Int) (a1_4_2 : Int) (a1_4_3 : Int) (l1_4_4 : List Int) (l1_4_5 : List Int) (a2 : Int) (w : World) (e0 : l0.length = 32) (w0 : ∀ c ∈ l0, (Lit.int .u8 c).wf = true) (w1_0 : (Lit.int .i64 a1_0).wf = true) (w1_1 : (Lit.int .i64 a1_1).wf = true) (c1_2 : len1_2 ≤ cap1_2) (m1_2 : cap1_2 ≤ maxLen) (s1_2 : X.SrW w 1 a1_2 len1_2 (X.iv .u8 l1_2)) (w1_2 : ∀ c ∈ l1_2, (Lit.int .u8 c).wf = true) (e1_3 : l1_3.length = 32) (w1_3 : ∀ c ∈ l1_3, (Lit.int .u8 c).wf = true) (w1_4_0 : (Lit.int .i64 a1_4_0).wf = true) (w1_4_1 : (Lit.int .i64 a1_4_1).wf = true) (w1_4_2 : (Lit.int .i64 a1_4_2).wf = true) (w1_4_3 : (Lit.int .i64 a1_4_3).wf = true) (e1_4_4 : l1_4_4.length = 32) (w1_4_4 : ∀ c ∈ l1_4_4, (Lit.int .u8 c).wf = true) (e1_4_5 : l1_4_5.length = 32) (w1_4_5 : ∀ c ∈ l1_4_5, (Lit.int .u8 c).wf = true) (w2 : (Lit.int .i64 a2).wf = true) :
    Calls Try.prog 17 #[X.AG [(32, X.iv .u8 l0)], X.AG [(1, [.int .i64 a1_0]), (1, [.int .i64 a1_1]), (1, [.slice a1_2 len1_2 cap1_2]), (32, X.iv .u8 l1_3), (1, [.int .i64 a1_4_0]), (1, [.int .i64 a1_4_1]), (1, [.int .i64 a1_4_2]), (1, [.int .i64 a1_4_3]), (32, X.iv .u8 l1_4_4), (32, X.iv .u8 l1_4_5)], .int .i64 a2] w fun e w' => e = .returned (.bool true) ∧ Below w.heap.size w w' := by
  exact (reportChecks_calls l0 e0 (wfB16 w0) ⟨a1_0, a1_1, a1_2, len1_2, cap1_2, l1_2, l1_3, ⟨a1_4_0, a1_4_1, a1_4_2, a1_4_3, l1_4_4, l1_4_5⟩⟩ ⟨e1_3, wfB16 w1_3, e1_4_4, wfB16 w1_4_4, e1_4_5, wfB16 w1_4_5, wfB16 w1_2, c1_2⟩ a2 w s1_2).mono fun e w' ⟨he, hp⟩ => ⟨he, hp.below⟩

set_option maxRecDepth 100000 in
theorem lifted (os : Os) (started : os.Started) (H : Type) (enc : TypeId × Value → H) :
    ReturnsInHanded {} Try.checked os 17 .any (Rows.reportChecksSpec.pre6 enc Try.prog Try.f17 Rows.reportChecksRow.domain false) (Rows.reportChecksSpec.post enc Try.prog Try.f17 false true false false) := by
  refine returnsInHanded_of_change (C := Try.checked) own started (by kernel_rfl) Try.func17
    (ChangeSpec.witness6 (enc := enc) (C := Try.checked) false ⟨#[], #[.agg (List.replicate 32 (Value.int .u8 0)).toArray, .agg ([Value.int .i64 0] ++ [Value.int .i64 0] ++ [Value.slice none 0 0] ++ List.replicate 32 (Value.int .u8 0) ++ [Value.int .i64 0] ++ [Value.int .i64 0] ++ [Value.int .i64 0] ++ [Value.int .i64 0] ++ List.replicate 32 (Value.int .u8 0) ++ List.replicate 32 (Value.int .u8 0)).toArray, .int .i64 0], []⟩ 8 (by kernel_rfl) (by kernel_rfl) (by kernel_rfl) (by kernel_rfl)) ?_
  intro W base args ds gs before hval0 hW hcnd _
  have hval : ∀ (j : Nat) t v, Try.f17.params[j]? = some t → args[j]? = some v → Value.okWide Try.prog W .any base t v := hval0
  have hW' := hW
  obtain ⟨p, q, hA0, hV, rfl, hfz, hnd⟩ := hW
  have hA : DataW.TrodAll enc Try.prog W 0 (fun _ => true) true Try.f17.params.toList args.toList ds p := hA0
  rw [Try.params17] at hA hval
  obtain ⟨v0, vs0, d0, ds0, p0, q0, hargs, rfl, rfl, h0, r0⟩ := trodAll_cons hA
  obtain ⟨v1, vs1, d1, ds1, p1, q1, rfl, rfl, rfl, h1, r1⟩ := trodAll_cons r0
  obtain ⟨v2, vs2, d2, ds2, p2, q2, rfl, rfl, rfl, h2, r2⟩ := trodAll_cons r1
  obtain ⟨rfl, rfl, rfl⟩ := trodAll_nil r2
  obtain rfl : args = #[v0, v1, v2] := by cases args; simp_all
  obtain ⟨rfl, rfl⟩ := trodVars_none hV
  have k0 := h0
  have lt0 : ∀ x ∈ p0, x.block < W.heap.size := by obtain ⟨m, hm⟩ := k0; exact DataW.trod_lt m _ _ _ hm
  have O0 := (X.open_D (d := (.arr 32 (.int .u8))) (by kernel_rfl) h0).1
  obtain ⟨cs0, rfl⟩ : ∃ cs, v0 = .agg cs := by
    have := hval 0 25 v0 rfl rfl
    simp only [Value.okWide, Try.underlying25] at this
    obtain ⟨cs, h, _⟩ := this
    exact ⟨cs, h⟩
  simp only [Value.cells] at O0
  obtain ⟨C0, hC0⟩ : ∃ C, C = cs0.toList := ⟨_, rfl⟩
  rw [← hC0] at O0
  obtain ⟨l0, rfl, e0, w0⟩ := X.okD_arr O0
  obtain rfl : cs0 = (X.flat [(32, X.iv .u8 l0)]).toArray := by
    apply Array.ext'
    rw [← hC0]
    simp [X.flat]
  have k1 := h1
  have lt1 : ∀ x ∈ p1, x.block < W.heap.size := by obtain ⟨m, hm⟩ := k1; exact DataW.trod_lt m _ _ _ hm
  have O1 := (X.open_D (d := (.fcons (.int .i64) (.fcons (.int .i64) (.fcons (.sl (.int .u8)) (.fcons (.arr 32 (.int .u8)) (.fcons (.fcons (.int .i64) (.fcons (.int .i64) (.fcons (.int .i64) (.fcons (.int .i64) (.fcons (.arr 32 (.int .u8)) (.fcons (.arr 32 (.int .u8)) .fnil)))))) .fnil)))))) (by kernel_rfl) h1).1
  obtain ⟨cs1, rfl⟩ : ∃ cs, v1 = .agg cs := by
    have := hval 1 73 v1 rfl rfl
    simp only [Value.okWide, Try.underlying73] at this
    obtain ⟨cs, h, _⟩ := this
    exact ⟨cs, h⟩
  simp only [Value.cells] at O1
  obtain ⟨C1, hC1⟩ : ∃ C, C = cs1.toList := ⟨_, rfl⟩
  rw [← hC1] at O1
  obtain ⟨x1_0, y1_0, z1_0, o1_0, p1_0⟩ := X.okD_fcons O1
  obtain ⟨a1_0, rfl, w1_0⟩ := o1_0
  obtain ⟨x1_1, y1_1, z1_1, o1_1, p1_1⟩ := X.okD_fcons p1_0
  obtain ⟨a1_1, rfl, w1_1⟩ := o1_1
  obtain ⟨x1_2, y1_2, z1_2, o1_2, p1_2⟩ := X.okD_fcons p1_1
  obtain ⟨a1_2, len1_2, cap1_2, rfl⟩ : ∃ a n c, x1_2 = [Value.slice a n c] := by obtain ⟨a, n, c, h, _⟩ := o1_2; exact ⟨a, n, c, h⟩
  obtain ⟨c1_2, m1_2, l1_2, s1_2, w1_2⟩ := X.okD_ints o1_2
  obtain ⟨x1_3, y1_3, z1_3, o1_3, p1_3⟩ := X.okD_fcons p1_2
  obtain ⟨l1_3, rfl, e1_3, w1_3⟩ := X.okD_arr o1_3
  obtain ⟨x1_4, y1_4, z1_4, o1_4, p1_4⟩ := X.okD_fcons p1_3
  obtain ⟨x1_4_0, y1_4_0, z1_4_0, o1_4_0, p1_4_0⟩ := X.okD_fcons o1_4
  obtain ⟨a1_4_0, rfl, w1_4_0⟩ := o1_4_0
  obtain ⟨x1_4_1, y1_4_1, z1_4_1, o1_4_1, p1_4_1⟩ := X.okD_fcons p1_4_0
  obtain ⟨a1_4_1, rfl, w1_4_1⟩ := o1_4_1
  obtain ⟨x1_4_2, y1_4_2, z1_4_2, o1_4_2, p1_4_2⟩ := X.okD_fcons p1_4_1
  obtain ⟨a1_4_2, rfl, w1_4_2⟩ := o1_4_2
  obtain ⟨x1_4_3, y1_4_3, z1_4_3, o1_4_3, p1_4_3⟩ := X.okD_fcons p1_4_2
  obtain ⟨a1_4_3, rfl, w1_4_3⟩ := o1_4_3
  obtain ⟨x1_4_4, y1_4_4, z1_4_4, o1_4_4, p1_4_4⟩ := X.okD_fcons p1_4_3
  obtain ⟨l1_4_4, rfl, e1_4_4, w1_4_4⟩ := X.okD_arr o1_4_4
  obtain ⟨x1_4_5, y1_4_5, z1_4_5, o1_4_5, p1_4_5⟩ := X.okD_fcons p1_4_4
  obtain ⟨l1_4_5, rfl, e1_4_5, w1_4_5⟩ := X.okD_arr o1_4_5
  have q1_4 := p1_4_5
  have q1 := p1_4
  obtain rfl : cs1 = (X.flat [(1, [.int .i64 a1_0]), (1, [.int .i64 a1_1]), (1, [.slice a1_2 len1_2 cap1_2]), (32, X.iv .u8 l1_3), (1, [.int .i64 a1_4_0]), (1, [.int .i64 a1_4_1]), (1, [.int .i64 a1_4_2]), (1, [.int .i64 a1_4_3]), (32, X.iv .u8 l1_4_4), (32, X.iv .u8 l1_4_5)]).toArray := by
    apply Array.ext'
    rw [← hC1]
    simp [X.flat, z1_0, z1_1, z1_2, z1_3, z1_4, z1_4_0, z1_4_1, z1_4_2, z1_4_3, z1_4_4, z1_4_5, (show _ = [] from q1_4), (show _ = [] from q1)]
  obtain ⟨a2, rfl, rfl, rfl, w2⟩ := open_int Try.underlying3 (hval 2 3 v2 rfl rfl) h2
  clear hA0 hval0
  refine (walk l0 a1_0 a1_1 a1_2 len1_2 cap1_2 l1_2 l1_3 a1_4_0 a1_4_1 a1_4_2 a1_4_3 l1_4_4 l1_4_5 a2 W e0 w0 w1_0 w1_1 c1_2 m1_2 s1_2 w1_2 e1_3 w1_3 w1_4_0 w1_4_1 w1_4_2 w1_4_3 e1_4_4 w1_4_4 e1_4_5 w1_4_5 w2).mono fun e W' ⟨he, bel⟩ => ?_
  subst he
  exact ⟨_, rfl, _, _, _, [], _, [], hW', trodAll_mk1 (shut_bool Try.underlying4 _), (trodAll_cons_mk (Below.trod laidOut (by kernel_rfl) (of_decide_eq_true (by kernel_rfl)) k0 bel lt0) (trodAll_cons_mk (Below.trod laidOut (by kernel_rfl) (of_decide_eq_true (by kernel_rfl)) k1 bel lt1) (trodAll_cons_mk (shut_int Try.underlying3 w2) trodAll_mk0))), rfl, bel.frame _, fun h => by cases h⟩

theorem over : Rows.reportChecksRow.holds Try.pinned (OpenSpec.ofChange Rows.reportChecksSpec) :=
  OpenClaim.holds_of_wide 17 Try.f17 rfl rfl rfl rfl rfl rfl rfl ⟨rfl, rfl, rfl, rfl, rfl⟩ rfl rfl rfl rfl rfl (by kernel_rfl) Try.func17 (by kernel_rfl)
    (of_decide_eq_true (by kernel_rfl)) (by unfold Func.isWrapper; first | (rw [if_pos (by decide +kernel)]; kernel_rfl) | (rw [if_neg (by decide +kernel)]; exact ⟨rfl, rfl⟩))
    (fun os started H enc _ => lifted os started H enc)

theorem proved : Rows.ReportChecksSaid := over
#print axioms proved
end Go.Proofs.Ytbalnjejamigaaa.reportChecks
