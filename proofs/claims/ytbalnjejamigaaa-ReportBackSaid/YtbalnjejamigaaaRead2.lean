/- report.Read, on. -/
import Derived.Test.YtbalnjejamigaaaRead
import Derived.Test.YtbalnjejamigaaaXB
set_option linter.unusedVariables false
set_option linter.unusedSimpArgs false

namespace Go.Proofs.Ytbalnjejamigaaa
open Go.X
/-- What is read of bytes: the report, and why not. -/
def okRows (ll : List (List Int)) : Bool := decide (ll.length = 5) && decide ((ll.getD 0 []).length = 4) && decide ((ll.getD 1 []).length = 1) && decide ((ll.getD 3 []).length = 32) && decide (readE (ll.getD 4 []) = 0) && rB (repR none 0 (ll.getD 0 []) (ll.getD 1 []) (ll.getD 2 []) (ll.getD 3 []) (ll.getD 4 []))
def repE (l : List Int) : Int := match partL l with
  | none => 3
  | some ll => if okRows ll then 0 else 2
def repTx (l : List Int) : List Int := if repE l = 0 then (partR l).getD 2 [] else []
def zeroR : RepS := ⟨0, 0, none, 0, 0, [], List.replicate 32 0, StampS.zero⟩
def repRd (o : Gr) (l : List Int) : RepS := if repE l = 0 then repR (gA o) (gC o) ((partR l).getD 0 []) ((partR l).getD 1 []) ((partR l).getD 2 []) ((partR l).getD 3 []) ((partR l).getD 4 []) else zeroR
theorem okRows5 {ll : List (List Int)} (h : ll.length = 5) : ∃ l0 l1 l2 l3 l4, ll = [l0, l1, l2, l3, l4] := by
  match ll, h with
  | [l0, l1, l2, l3, l4], _ => exact ⟨_, _, _, _, _, rfl⟩
theorem of_all (A : Option Addr) (n cap : Nat) (ll : List (List Int)) (w : World) (hr : Rows w A n ll) (hm : ∀ l ∈ ll, l.length ≤ 1000000) (h : okRows ll = false) :
    Calls Try.prog 83 [.slice A n cap].toArray w fun e w' => e = .panicked form17 ∧ HP w w' [] [] := by
  by_cases h5 : ll.length = 5
  · obtain ⟨l0, l1, l2, l3, l4, rfl⟩ := okRows5 h5
    have hm4 := hm l4 (by simp)
    by_cases hs : l0.length = 4 ∧ l1.length = 1 ∧ l3.length = 32
    · by_cases h4 : readE l4 = 0
      · refine of_right l0 l1 l2 l3 l4 A n cap w hr hm4 hs h4 ?_
        simpa [okRows, hs, h4] using h
      · exact of_read l0 l1 l2 l3 l4 A n cap w hr hm4 hs h4
    · exact of_shape l0 l1 l2 l3 l4 A n cap w hr hm4 hs
  · exact of_len A n cap ll w hr h5
theorem GR.rowsL {w0 w : World} {O : List Nat} {L : List (Nat × Blk)} (hp : HP w0 w O L) : ∀ (rs : List RowB), (∀ r ∈ rs, r.l.length = r.n ∧ r.n ≤ r.cap ∧ ∀ x ∈ r.l, 0 ≤ x ∧ x ≤ 255) → (∀ r ∈ rs, r.blk 5 ∈ L) → RowsL w (rs.map RowB.v) (rs.map (·.l))
  | [], _, _ => trivial
  | r :: rs, h, hm => by
    have h0 := h r List.mem_cons_self
    have hs : SrW w 1 (some ⟨r.b, 0, none⟩) r.n (iv .u8 r.l) := HP.sown hp (hm r List.mem_cons_self) iv_one
    exact ⟨⟨some ⟨r.b, 0, none⟩, r.n, r.cap, rfl, h0.2.1, hs, h0.2.2⟩, GR.rowsL hp rs (fun q hq => h q (List.mem_cons_of_mem _ hq)) fun q hq => hm q (List.mem_cons_of_mem _ hq)⟩
theorem GR.rows {w0 w : World} {O : List Nat} {L L' : List (Nat × Blk)} {g : GR} (hp : HP w0 w O L) (hd : DelL (gRL 5 22 g) L L') (hg : g.OK) (hn : g.rs.length ≤ 9223372036854775807) : Rows w (gA g.o) g.rs.length g.ll := by
  have h1 : HP w0 w O (gL g.o g.rs.length (g.rs.map RowB.v) 22 ++ (g.rs.map (RowB.blk 5) ++ L')) := by
    have := hp.perm hd.perm.symm; unfold gRL at this; rwa [List.append_assoc] at this
  refine ⟨hn, _, HP.sgr h1 (.here _) (by simp) hg.1 (by simp [one]), GR.rowsL h1 g.rs hg.2 fun r hr => ?_⟩
  exact List.mem_append_right _ (List.mem_append_left _ (List.mem_map.2 ⟨r, hr, rfl⟩))
theorem GR.two {w0 w : World} {O : List Nat} {L L' : List (Nat × Blk)} {g : GR} (hp : HP w0 w O L) (hd : DelL (gRL 5 22 g) L L') (hg : g.OK) : SrW w 1 (gA g.o) g.rs.length (g.rs.map RowB.v) ∧ RowsL w (g.rs.map RowB.v) g.ll := by
  have h1 : HP w0 w O (gL g.o g.rs.length (g.rs.map RowB.v) 22 ++ (g.rs.map (RowB.blk 5) ++ L')) := by
    have := hp.perm hd.perm.symm; unfold gRL at this; rwa [List.append_assoc] at this
  exact ⟨HP.sgr h1 (.here _) (by simp) hg.1 (by simp [one]), GR.rowsL h1 g.rs hg.2 fun r hr => List.mem_append_right _ (List.mem_append_left _ (List.mem_map.2 ⟨r, hr, rfl⟩))⟩
theorem rows_le {f : Nat} : ∀ {l : List Int} {ll : List (List Int)}, partF f l = some ll → ll.length ≤ l.length ∧ ∀ x ∈ ll, x.length ≤ l.length := by
  induction f with
  | zero => intro l ll h; unfold partF at h; split at h
            · cases h; simp
            · cases h
  | succ f ih =>
    intro l ll h
    unfold partF at h
    split at h
    · cases h; simp
    split at h
    · cases h
    split at h
    · cases h
    obtain ⟨m, hm, rfl⟩ := Option.map_eq_some_iff.1 h
    have := ih hm
    simp only [List.length_drop] at this
    refine ⟨by simp only [List.length_cons]; omega, fun x hx => ?_⟩
    rcases List.mem_cons.1 hx with rfl | hx
    · simp; omega
    · have := this.2 x hx; omega
theorem partE_ne {l : List Int} (h : partE l ≠ 0) : repE l = 3 ∧ repTx l = [] ∧ ∀ o, repRd o l = zeroR := by
  have hn : partL l = none := by
    cases hq : partL l with
    | none => rfl
    | some ll => exact absurd (part_ok hq).1 h
  have h3 : repE l = 3 := by unfold repE; rw [hn]
  exact ⟨h3, by unfold repTx; rw [if_neg (by omega)], fun o => by unfold repRd; rw [if_neg (by omega)]⟩
theorem partE_eq {l : List Int} (h : partE l = 0) : partL l = some (partR l) := by
  cases hq : partL l with
  | none => rw [(part_err hq).1] at h; cases h
  | some ll => rw [(part_ok hq).2]
theorem repE_no {l : List Int} (h : partE l = 0) (h2 : okRows (partR l) = false) : repE l = 2 ∧ repTx l = [] ∧ ∀ o, repRd o l = zeroR := by
  have h3 : repE l = 2 := by unfold repE; rw [partE_eq h]; simp [h2]
  exact ⟨h3, by unfold repTx; rw [if_neg (by omega)], fun o => by unfold repRd; rw [if_neg (by omega)]⟩
theorem repE_ok {l : List Int} (h : partE l = 0) (h2 : okRows (partR l) = true) : repE l = 0 := by
  unfold repE; rw [partE_eq h]; simp [h2]
end Go.Proofs.Ytbalnjejamigaaa
