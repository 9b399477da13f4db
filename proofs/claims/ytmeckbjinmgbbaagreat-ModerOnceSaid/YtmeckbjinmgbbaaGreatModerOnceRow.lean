/-
  ModerOnce: for any root, any numbers, and whatever is kept: the law returns true, and changes nothing that was there. No condition.
-/
import Derived.Test.YtmeckbjinmgbbaaGreatRows
import Derived.Test.YtmeckbjinmgbbaaGreatOn
import Derived.Test.YtmeckbjinmgbbaaGreatXB
import Derived.WalkKit
import Derived.ProofKit
import Derived.OpenShut
import Derived.ShutString
import Derived.ChangeOld
import Derived.Below
set_option linter.unusedVariables false
set_option linter.unusedSimpArgs false

namespace Go.Proofs.YtmeckbjinmgbbaaGreat.moderOnce
open Go.ChangeShapes Go.WideShapes Go.ChangeAt Go.RowKit
set_option linter.unusedVariables false

theorem own : ownKnob Tryz.prog.godebug = none := by kernel_rfl
theorem laidOut : laidOutB Tryz.prog = true := by kernel_rfl

theorem walk (l0 : List Int) (a1 : Option Addr) (len1 cap1 : Nat) (l1 : List Int) (a2 : Int) (w : World) (e0 : l0.length = 32) (w0 : ∀ c ∈ l0, (Lit.int .u8 c).wf = true) (c1 : len1 ≤ cap1) (m1 : cap1 ≤ maxLen) (s1 : X.SrW w 1 a1 len1 (X.iv .i64 l1)) (w1 : ∀ c ∈ l1, (Lit.int .i64 c).wf = true) (w2 : (Lit.int .u64 a2).wf = true) :
    Calls Tryz.prog 4 #[X.AG [(32, X.iv .u8 l0)], .slice a1 len1 cap1, .int .u64 a2] w fun e w' => e = .returned (.bool true) ∧ Below w.heap.size w w' := by
  exact (moderOnce_calls l0 e0 (fun c hc => X.wf_u8 (w0 c hc)) a1 len1 cap1 l1 a2 w s1 (wfu24 w2)).mono fun e w' ⟨he, hp⟩ => ⟨he, hp.below⟩

set_option maxRecDepth 100000 in
theorem lifted (os : Os) (started : os.Started) (H : Type) (enc : TypeId × Value → H) :
    ReturnsInHanded {} Tryz.checked os 4 .any (Rows.moderOnceSpec.pre6 enc Tryz.prog Tryz.f4 Rows.moderOnceRow.domain false) (Rows.moderOnceSpec.post enc Tryz.prog Tryz.f4 false true false false) := by
  refine returnsInHanded_of_change (C := Tryz.checked) own started (by kernel_rfl) Tryz.func4
    (ChangeSpec.witness6 (enc := enc) (C := Tryz.checked) false ⟨#[], #[.agg (List.replicate 32 (Value.int .u8 0)).toArray, .slice none 0 0, .int .u64 0], []⟩ 8 (by kernel_rfl) (by kernel_rfl) (by kernel_rfl) (by kernel_rfl)) ?_
  intro W base args ds gs before hval0 hW hcnd _
  have hval : ∀ (j : Nat) t v, Tryz.f4.params[j]? = some t → args[j]? = some v → Value.okWide Tryz.prog W .any base t v := hval0
  have hW' := hW
  obtain ⟨p, q, hA0, hV, rfl, hfz, hnd⟩ := hW
  have hA : DataW.TrodAll enc Tryz.prog W 0 (fun _ => true) true Tryz.f4.params.toList args.toList ds p := hA0
  rw [Tryz.params4] at hA hval
  obtain ⟨v0, vs0, d0, ds0, p0, q0, hargs, rfl, rfl, h0, r0⟩ := trodAll_cons hA
  obtain ⟨v1, vs1, d1, ds1, p1, q1, rfl, rfl, rfl, h1, r1⟩ := trodAll_cons r0
  obtain ⟨v2, vs2, d2, ds2, p2, q2, rfl, rfl, rfl, h2, r2⟩ := trodAll_cons r1
  obtain ⟨rfl, rfl, rfl⟩ := trodAll_nil r2
  obtain rfl : args = #[v0, v1, v2] := by cases args; simp_all
  obtain ⟨rfl, rfl⟩ := trodVars_none hV
  have k0 := h0
  have lt0 : ∀ x ∈ p0, x.block < W.heap.size := by obtain ⟨m, hm⟩ := k0; exact DataW.trod_lt m _ _ _ hm
  have O0 := (X.open_D (d := (.arr 32 (.int .u8))) (by kernel_rfl) h0).1
  obtain ⟨cs0, rfl⟩ : ∃ cs, v0 = .agg cs := by
    have := hval 0 23 v0 rfl rfl
    simp only [Value.okWide, Tryz.underlying23] at this
    obtain ⟨cs, h, _⟩ := this
    exact ⟨cs, h⟩
  simp only [Value.cells] at O0
  obtain ⟨C0, hC0⟩ : ∃ C, C = cs0.toList := ⟨_, rfl⟩
  rw [← hC0] at O0
  obtain ⟨l0, rfl, e0, w0⟩ := X.okD_arr O0
  obtain rfl : cs0 = (X.flat [(32, X.iv .u8 l0)]).toArray := by
    apply Array.ext'
    rw [← hC0]
    simp [X.flat]
  have k1 := h1
  have lt1 : ∀ x ∈ p1, x.block < W.heap.size := by obtain ⟨m, hm⟩ := k1; exact DataW.trod_lt m _ _ _ hm
  have O1 := (X.open_D (d := (.sl (.int .i64))) (by kernel_rfl) h1).1
  obtain ⟨a1, len1, cap1, rfl⟩ := okWide_slice Tryz.underlying40 (hval 1 40 v1 rfl rfl)
  obtain ⟨c1, m1, l1, s1, w1⟩ := X.okD_ints O1
  obtain ⟨a2, rfl, rfl, rfl, w2⟩ := open_int Tryz.underlying41 (hval 2 41 v2 rfl rfl) h2
  clear hA0 hval0
  refine (walk l0 a1 len1 cap1 l1 a2 W e0 w0 c1 m1 s1 w1 w2).mono fun e W' ⟨he, bel⟩ => ?_
  subst he
  exact ⟨_, rfl, _, _, _, [], _, [], hW', trodAll_mk1 (shut_bool Tryz.underlying4 _), (trodAll_cons_mk (Below.trod laidOut (by kernel_rfl) (of_decide_eq_true (by kernel_rfl)) k0 bel lt0) (trodAll_cons_mk (Below.trod laidOut (by kernel_rfl) (of_decide_eq_true (by kernel_rfl)) k1 bel lt1) (trodAll_cons_mk (shut_int Tryz.underlying41 w2) trodAll_mk0))), rfl, bel.frame _, fun h => by cases h⟩

theorem over : Rows.moderOnceRow.holds Tryz.pinned (OpenSpec.ofChange Rows.moderOnceSpec) :=
  OpenClaim.holds_of_wide 4 Tryz.f4 rfl rfl rfl rfl rfl rfl rfl ⟨rfl, rfl, rfl, rfl, rfl⟩ rfl rfl rfl rfl rfl (by kernel_rfl) Tryz.func4 (by kernel_rfl)
    (of_decide_eq_true (by kernel_rfl)) (by unfold Func.isWrapper; first | (rw [if_pos (by decide +kernel)]; kernel_rfl) | (rw [if_neg (by decide +kernel)]; exact ⟨rfl, rfl⟩))
    (fun os started H enc _ => lifted os started H enc)

theorem proved : Rows.ModerOnceSaid := over
#print axioms proved
end Go.Proofs.YtmeckbjinmgbbaaGreat.moderOnce
