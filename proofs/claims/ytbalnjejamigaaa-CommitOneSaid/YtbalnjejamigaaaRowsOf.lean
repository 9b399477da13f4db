/- Rows out of a law's argument. -/
import Derived.Test.YtbalnjejamigaaaLaws14
import Derived.Test.YtbalnjejamigaaaX7
namespace Go.Proofs.Ytbalnjejamigaaa
open Go.X
theorem wf_bytes {l : List Int} (h : ∀ c ∈ l, (Lit.int .u8 c).wf = true) : bytes l := fun c hc => wf_u8 (h c hc)
theorem rowsL_of {w : World} : ∀ (vs : List Value), (∀ (i : Nat) v, vs[i]? = some v → okD w (.sl (.int .u8)) [v]) → ∃ ll, RowsL w vs ll ∧ ∀ l ∈ ll, bytes l
  | [], _ => ⟨[], trivial, by simp⟩
  | v :: vs, h => by
    obtain ⟨ll, h1, h2⟩ := rowsL_of vs (fun i u hu => h (i + 1) u (by simpa using hu))
    have h0 := h 0 v rfl
    obtain ⟨A, n, cap, e, _⟩ := id h0
    simp only [List.cons.injEq, and_true] at e
    subst e
    obtain ⟨g1, g2, l, g3, g4⟩ := okD_ints h0
    have hb := wf_bytes g4
    exact ⟨l :: ll, ⟨⟨A, n, cap, rfl, g1, g3, hb⟩, h1⟩, fun x hx => by
      rcases List.mem_cons.1 hx with rfl | hx
      · exact hb
      · exact h2 x hx⟩
theorem okD_rows {w : World} {A : Option Addr} {n cap : Nat} (h : okD w (.sl (.sl (.int .u8))) [.slice A n cap]) : ∃ ll, Rows w A n ll ∧ ∀ l ∈ ll, bytes l := by
  obtain ⟨h1, h2, vs, h3, h4⟩ := okD_cells rfl (fun e he v hv => by
    obtain ⟨A, n, c, rfl, _⟩ := he
    simp only [List.mem_singleton] at hv
    subst hv; rfl) h
  obtain ⟨ll, h5, h6⟩ := rowsL_of vs h4
  unfold maxLen at h2
  exact ⟨ll, ⟨by omega, vs, h3, h5⟩, h6⟩
end Go.Proofs.Ytbalnjejamigaaa
