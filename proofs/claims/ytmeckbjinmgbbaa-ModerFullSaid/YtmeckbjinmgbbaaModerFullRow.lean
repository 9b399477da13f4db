/-
  ModerFull: for any root, any number and any choices: the law returns true, and changes nothing that was there. No condition.
-/
import Derived.Test.YtmeckbjinmgbbaaRows
import Derived.Test.YtmeckbjinmgbbaaFull
import Derived.Test.YtmeckbjinmgbbaaXB
import Derived.WalkKit
import Derived.ProofKit
import Derived.OpenShut
import Derived.ShutString
import Derived.ChangeOld
import Derived.Below
set_option linter.unusedVariables false
set_option linter.unusedSimpArgs false

namespace Go.Proofs.Ytmeckbjinmgbbaa.moderFull
open Go.ChangeShapes Go.WideShapes Go.ChangeAt Go.RowKit
set_option linter.unusedVariables false

theorem own : ownKnob Try.prog.godebug = none := by kernel_rfl
theorem laidOut : laidOutB Try.prog = true := by kernel_rfl

theorem walk (l0 : List Int) (a1 : Int) (a2 : Option Addr) (len2 cap2 : Nat) (w : World) (e0 : l0.length = 32) (w0 : ∀ c ∈ l0, (Lit.int .u8 c).wf = true) (w1 : (Lit.int .i64 a1).wf = true) (d2 : X.okD w (.sl .bool) [.slice a2 len2 cap2]) :
    Calls Try.prog 10 #[X.AG [(32, X.iv .u8 l0)], .int .i64 a1, .slice a2 len2 cap2] w fun e w' => e = .returned (.bool true) ∧ Below w.heap.size w w' := by
  obtain ⟨_, _, z, hz, hs⟩ := X.okD_bools d2
  exact (moderFull_calls l0 e0 (fun c hc => X.wf_u8 (w0 c hc)) a1 a2 len2 cap2 z hz w hs).mono fun e w' ⟨he, hp⟩ => ⟨he, hp.below⟩

set_option maxRecDepth 100000 in
theorem lifted (os : Os) (started : os.Started) (H : Type) (enc : TypeId × Value → H) :
    ReturnsInHanded {} Try.checked os 10 .any (Rows.moderFullSpec.pre6 enc Try.prog Try.f10 Rows.moderFullRow.domain false) (Rows.moderFullSpec.post enc Try.prog Try.f10 false true false false) := by
  refine returnsInHanded_of_change (C := Try.checked) own started (by kernel_rfl) Try.func10
    (ChangeSpec.witness6 (enc := enc) (C := Try.checked) false ⟨#[], #[.agg (List.replicate 32 (Value.int .u8 0)).toArray, .int .i64 0, .slice none 0 0], []⟩ 8 (by kernel_rfl) (by kernel_rfl) (by kernel_rfl) (by kernel_rfl)) ?_
  intro W base args ds gs before hval0 hW hcnd _
  have hval : ∀ (j : Nat) t v, Try.f10.params[j]? = some t → args[j]? = some v → Value.okWide Try.prog W .any base t v := hval0
  have hW' := hW
  obtain ⟨p, q, hA0, hV, rfl, hfz, hnd⟩ := hW
  have hA : DataW.TrodAll enc Try.prog W 0 (fun _ => true) true Try.f10.params.toList args.toList ds p := hA0
  rw [Try.params10] at hA hval
  obtain ⟨v0, vs0, d0, ds0, p0, q0, hargs, rfl, rfl, h0, r0⟩ := trodAll_cons hA
  obtain ⟨v1, vs1, d1, ds1, p1, q1, rfl, rfl, rfl, h1, r1⟩ := trodAll_cons r0
  obtain ⟨v2, vs2, d2, ds2, p2, q2, rfl, rfl, rfl, h2, r2⟩ := trodAll_cons r1
  obtain ⟨rfl, rfl, rfl⟩ := trodAll_nil r2
  obtain rfl : args = #[v0, v1, v2] := by cases args; simp_all
  obtain ⟨rfl, rfl⟩ := trodVars_none hV
  have k0 := h0
  have lt0 : ∀ x ∈ p0, x.block < W.heap.size := by obtain ⟨m, hm⟩ := k0; exact DataW.trod_lt m _ _ _ hm
  have O0 := (X.open_D (d := (.arr 32 (.int .u8))) (by kernel_rfl) h0).1
  obtain ⟨cs0, rfl⟩ : ∃ cs, v0 = .agg cs := by
    have := hval 0 23 v0 rfl rfl
    simp only [Value.okWide, Try.underlying23] at this
    obtain ⟨cs, h, _⟩ := this
    exact ⟨cs, h⟩
  simp only [Value.cells] at O0
  obtain ⟨C0, hC0⟩ : ∃ C, C = cs0.toList := ⟨_, rfl⟩
  rw [← hC0] at O0
  obtain ⟨l0, rfl, e0, w0⟩ := X.okD_arr O0
  obtain rfl : cs0 = (X.flat [(32, X.iv .u8 l0)]).toArray := by
    apply Array.ext'
    rw [← hC0]
    simp [X.flat]
  obtain ⟨a1, rfl, rfl, rfl, w1⟩ := open_int Try.underlying3 (hval 1 3 v1 rfl rfl) h1
  have k2 := h2
  have lt2 : ∀ x ∈ p2, x.block < W.heap.size := by obtain ⟨m, hm⟩ := k2; exact DataW.trod_lt m _ _ _ hm
  have O2 := (X.open_D (d := (.sl .bool)) (by kernel_rfl) h2).1
  obtain ⟨a2, len2, cap2, rfl⟩ := okWide_slice Try.underlying24 (hval 2 24 v2 rfl rfl)
  have d2 := O2
  clear hA0 hval0
  refine (walk l0 a1 a2 len2 cap2 W e0 w0 w1 d2).mono fun e W' ⟨he, bel⟩ => ?_
  subst he
  exact ⟨_, rfl, _, _, _, [], _, [], hW', trodAll_mk1 (shut_bool Try.underlying4 _), (trodAll_cons_mk (Below.trod laidOut (by kernel_rfl) (of_decide_eq_true (by kernel_rfl)) k0 bel lt0) (trodAll_cons_mk (shut_int Try.underlying3 w1) (trodAll_cons_mk (Below.trod laidOut (by kernel_rfl) (of_decide_eq_true (by kernel_rfl)) k2 bel lt2) trodAll_mk0))), rfl, bel.frame _, fun h => by cases h⟩

theorem over : Rows.moderFullRow.holds Try.pinned (OpenSpec.ofChange Rows.moderFullSpec) :=
  OpenClaim.holds_of_wide 10 Try.f10 rfl rfl rfl rfl rfl rfl rfl ⟨rfl, rfl, rfl, rfl, rfl⟩ rfl rfl rfl rfl rfl (by kernel_rfl) Try.func10 (by kernel_rfl)
    (of_decide_eq_true (by kernel_rfl)) (by unfold Func.isWrapper; first | (rw [if_pos (by decide +kernel)]; kernel_rfl) | (rw [if_neg (by decide +kernel)]; exact ⟨rfl, rfl⟩))
    (fun os started H enc _ => lifted os started H enc)

theorem proved : Rows.ModerFullSaid := over
#print axioms proved
end Go.Proofs.Ytmeckbjinmgbbaa.moderFull
