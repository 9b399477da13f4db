/- report.Read: what is given up is recovered. -/
import Derived.Test.YtbalnjejamigaaaOf
import Derived.Test.YtbalnjejamigaaaXB
set_option linter.unusedVariables false
set_option linter.unusedSimpArgs false

namespace Go.Proofs.Ytbalnjejamigaaa
open Go.X
set_option maxRecDepth 8000 in
theorem rec_no (b2 b3 : Nat) (w : World) : CallsD Try.prog 82 [.pointer (some ⟨b2, 0, none⟩), .pointer (some ⟨b3, 0, none⟩)].toArray .returning w fun e u' w' => e = .returned (.tuple #[]) ∧ u' = .returning ∧ HP w w' [] [] := by
  refine callsD_of_WC Try.func82 rfl Try.ntmps82 rfl rfl (HP.refl w []) fun c₀ cs hu => ?_
  refine WC.seq ?_
  refine WC.region (l := [0, 1, 2, 3, 4, 5, 6]) (by kernel_rfl) ?_
  refine WS.rcn rfl (by simp [recoverD, hu]) ?_
  refine WS.val rfl (vtyN (z := .int .i64 0)) ?_
  refine WS.val rfl (V_move rfl) ?_
  refine WS.val rfl vex ?_
  refine WS.val rfl vex ?_
  refine WS.val rfl (V_assign rfl) ?_
  refine WS.val rfl (V_assign rfl) ?_
  refine WS.nil ?_
  refine WC.ofW ?_
  refine sr ?_
  refine omv ?_
  refine nq ?_
  refine W.cond_false rfl rfl ?_
  refine W.skip ?_
  exact WQ.retS (u' := .returning) (.inl rfl) (by kernel_rfl) (by rw [← hu]) fun w' hp => ⟨rfl, rfl, hp⟩
def zeroRep : List Seg := [(1, [.int .i64 0]), (1, [.int .i64 0]), (1, [.slice none 0 0]), (32, List.replicate 32 (.int .u8 0)), (1, [.int .i64 0]), (1, [.int .i64 0]), (1, [.int .i64 0]), (1, [.int .i64 0]), (32, List.replicate 32 (.int .u8 0)), (32, List.replicate 32 (.int .u8 0))]
set_option maxRecDepth 8000 in
theorem rec_yes (b2 b3 : Nat) (w : World) (h2 : (Blk.cells zeroRep 73).Is w.heap[b2]?) (h3 : (Blk.cells [(1, [.int .i64 0])] 26).Is w.heap[b3]?) (hne : b2 ≠ b3) :
    CallsD Try.prog 82 [.pointer (some ⟨b2, 0, none⟩), .pointer (some ⟨b3, 0, none⟩)].toArray (.panicking form17) w fun e u' w' => e = .returned (.tuple #[]) ∧ u' = .panicking [{ v := .iface 26 (.int .i64 2), recovered := true }] ∧ HP w w' [b2, b3] [(b2, .cells zeroRep 73), (b3, .cells [(1, [.int .i64 2])] 26)] := by
  refine callsD_of_WC Try.func82 rfl Try.ntmps82 rfl rfl (HP.start (O := [b2, b3]) (L := [(b2, .cells zeroRep 73), (b3, .cells [(1, [.int .i64 0])] 26)]) (by intro p hp; simp only [List.mem_cons, List.not_mem_nil, or_false] at hp; rcases hp with rfl | rfl; exact h2; exact h3) (by simp [hne]) (by simp [hne])) fun c₀ cs hu => ?_
  refine WC.seq ?_
  refine WC.region (l := [0, 1, 2, 3, 4, 5, 6]) (by kernel_rfl) ?_
  refine WS.rcv (v := .iface 26 (.int .i64 2)) (cs' := { c₀ with mode := .panicking [{ v := .iface 26 (.int .i64 2), recovered := true }] } :: cs) rfl (by simp only [recoverD, hu, form17]) ?_
  refine WS.val (v := .tuple #[.int .i64 2, .bool true]) rfl (vtyY (v := .int .i64 2)) ?_
  refine WS.val rfl (V_move rfl) ?_
  refine WS.val rfl vex ?_
  refine WS.val rfl vex ?_
  refine WS.val rfl (V_assign rfl) ?_
  refine WS.val rfl (V_assign rfl) ?_
  refine WS.nil ?_
  refine WC.ofW ?_
  refine sr ?_
  refine omv ?_
  refine nq ?_
  refine W.cond_true rfl rfl ?_
  refine W.region ?_
  refine ov (V_build (by kernel_rfl) (zi (zs := zeroRep)) (.nil _)) ?_
  refine omv ?_
  unfold zeroRep
  refine osta 103 ?_
  refine ost ?_
  refine WL.nil ?_
  exact WQ.retS (u' := .panicking [{ v := .iface 26 (.int .i64 2), recovered := true }]) (.inl rfl) (by kernel_rfl) rfl fun w' hp => ⟨rfl, rfl, hp.cov cov⟩
end Go.Proofs.Ytbalnjejamigaaa
