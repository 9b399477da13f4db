/- A row's arguments that are arrays of integers. -/
import Derived.Test.YtbalnjejamigaaaXArr
import Derived.OpenShut
set_option linter.unusedVariables false
set_option linter.unusedSimpArgs false
namespace Go.X
open Go.RowKit Go.WideShapes Go.ChangeShapes
variable {H : Type} {enc : TypeId × Value → H} {P : Program} {W : World}
theorem open_arrI {t e n : Nat} {k : IntKind} {r : Reach} {b0 base : Nat} {spare : Nat → Bool} {held : Bool} {v : Value} {d : DataW H} {p : List MemPlace} (ht : P.underlying t = some (.array n e)) (he : P.underlying e = some (.int k)) (ce : P.cellsOf e = 1) (ct : P.cellsOf t = n)
    (hv : Value.okWide P W r b0 t v) (h : DataW.Trod enc P W base spare held t v d p) : ∃ l : List Int, v = AG [(n, iv k l)] ∧ l.length = n ∧ ∀ c ∈ l, (Lit.int k c).wf = true := by
  obtain ⟨cs, rfl, hsz⟩ : ∃ cs : Array Value, v = .agg cs ∧ cs.size = n := by
    simp only [Value.okWide, ht] at hv
    obtain ⟨cs, h1, h2, _⟩ := hv
    exact ⟨cs, h1, by rw [h2, ct]⟩
  obtain ⟨fuel, hf⟩ := h
  obtain ⟨xs, m, _, _, _, hl, hel⟩ := DataW.trod_array ht hf
  have hc : ∀ i, i < n → ∃ z, cs.toList[i]? = some (.int k z) ∧ (Lit.int k z).wf = true := fun i hi => by
    have hE := hel i hi
    rw [ce, Nat.mul_one, List.getElem?_eq_getElem (by omega)] at hE
    obtain ⟨z, e1, _, e3⟩ := DataW.trod_int he hE
    refine ⟨z, ?_, e3⟩
    have h0 : (((Value.agg cs).cells.toList.drop i).take 1)[0]? = some (.int k z) := by rw [e1]; rfl
    simpa [Value.cells] using h0
  have hcs : cs.toList.length = n := by simpa using hsz
  have hl2 : ∃ l : List Int, cs.toList = iv k l ∧ l.length = n ∧ ∀ c ∈ l, (Lit.int k c).wf = true := by
    refine ⟨cs.toList.map (fun v => match v with | .int _ z => z | _ => 0), ?_, by simp [hsz], fun c hcm => ?_⟩
    · apply List.ext_getElem?
      intro i
      by_cases hi : i < n
      · obtain ⟨z, e1, _⟩ := hc i hi
        simp [iv, e1]
      · rw [List.getElem?_eq_none (by omega), List.getElem?_eq_none (by simp [iv]; omega)]
    · obtain ⟨v, hv1, rfl⟩ := List.mem_map.1 hcm
      obtain ⟨i, hi⟩ := List.getElem?_of_mem hv1
      obtain ⟨z, e1, e2⟩ := hc i (by have := (List.getElem?_eq_some_iff.1 hi).1; omega)
      rw [e1] at hi
      injection hi with hi; subst hi
      exact e2
  obtain ⟨l, e1, e2, e3⟩ := hl2
  refine ⟨l, ?_, e2, e3⟩
  have : cs = (iv k l).toArray := by rw [← e1]
  rw [this, AG]
  simp [flat]
end Go.X
