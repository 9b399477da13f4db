/- Disks: what is pending (maps.Keys, slices.Sorted: the kit's shelf). -/
import Derived.Test.YtnpnnafcdnefiaaDisk3
import Derived.Test.YtnpnnafcdnefiaaXC
import Derived.Shelf.SlIterI.Nil
import Derived.Shelf.SortM.Plain
import Derived.Shelf.SortM.SortNone
set_option linter.unusedVariables false
set_option linter.unusedSimpArgs false

namespace Go.Proofs.Ytnpnnafcdnefiaa
open Go.RowKit Go.Maps Go.Sort Go.Shelf Go.X

def keysI_ren : Go.Shelf.Ren := ⟨fun | 7 => 63 | 10 => 78 | n => n, fun | 23 => 99 | 26 => 3 | 3 => 58 | 28 => 126 | 0 => 0 | 27 => 125 | 33 => 115 | 4 => 4 | n => n, fun | n => n⟩
theorem keysI : Go.Proofs.SlLaysZI.n7 Try.prog keysI_ren := { mixed := by kernel_rfl, f7 := ⟨Try.f63.name, by decide, Try.func63.trans (congrArg some (by kernel_rfl))⟩, f10 := ⟨Try.f78.name, by decide, Try.func78.trans (congrArg some (by kernel_rfl))⟩, t0 := Try.underlying0, a0 := Try.isAgg0, z0 := Try.sizeOf0, v0 := Try.zeroValue0, t4 := Try.underlying4, a4 := Try.isAgg4, z4 := Try.sizeOf4, v4 := Try.zeroValue4, t23 := Try.underlying99, a23 := Try.isAgg99, z23 := Try.sizeOf99, v23 := Try.zeroValue99, t26 := Try.underlying3, a26 := Try.isAgg3, z26 := Try.sizeOf3, v26 := Try.zeroValue3, t27 := Try.underlying125, a27 := Try.isAgg125, z27 := Try.sizeOf125, v27 := Try.zeroValue125, t28 := Try.underlying126, a28 := Try.isAgg126, z28 := Try.sizeOf126, v28 := Try.zeroValue126, t33 := Try.underlying115, a33 := Try.isAgg115, z33 := Try.sizeOf115, v33 := Try.zeroValue115 }

def sortedI_ren : Go.Shelf.Ren := ⟨fun | 6 => 62 | 8 => 76 | 9 => 77 | 11 => 84 | 13 => 86 | 12 => 85 | 23 => 96 | 24 => 97 | 14 => 87 | 15 => 88 | 16 => 89 | 17 => 90 | 18 => 91 | 19 => 92 | 20 => 93 | 21 => 94 | 22 => 95 | 25 => 98 | 26 => 99 | 27 => 100 | 28 => 101 | 29 => 102 | 30 => 103 | 31 => 104 | n => n, fun | 26 => 3 | 28 => 126 | 24 => 36 | 0 => 0 | 3 => 3 | 37 => 151 | 48 => 160 | 50 => 53 | 4 => 4 | 40 => 154 | 39 => 153 | 45 => 41 | 5 => 5 | 9 => 9 | 51 => 162 | 55 => 166 | 57 => 168 | 58 => 169 | 33 => 115 | n => n, fun | n => n⟩
theorem sortedI : Go.Proofs.SlLaysZI.n6 Try.prog sortedI_ren := { mixed := by kernel_rfl, f6 := ⟨Try.f62.name, by decide, Try.func62.trans (congrArg some (by kernel_rfl))⟩, f8 := ⟨Try.f76.name, by decide, Try.func76.trans (congrArg some (by kernel_rfl))⟩, f11 := ⟨Try.f84.name, by decide, Try.func84.trans (congrArg some (by kernel_rfl))⟩, t0 := Try.underlying0, a0 := Try.isAgg0, z0 := Try.sizeOf0, v0 := Try.zeroValue0, t24 := Try.underlying36, a24 := Try.isAgg36, z24 := Try.sizeOf36, v24 := Try.zeroValue36, t26 := Try.underlying3, a26 := Try.isAgg3, z26 := Try.sizeOf3, v26 := Try.zeroValue3, t28 := Try.underlying126, a28 := Try.isAgg126, z28 := Try.sizeOf126, v28 := Try.zeroValue126, i26 := by kernel_rfl }

def sortI_ren : Go.Shelf.Ren := ⟨fun | 5 => 77 | 8 => 86 | 7 => 85 | 19 => 96 | 20 => 97 | 10 => 87 | 11 => 88 | 12 => 89 | 13 => 90 | 14 => 91 | 15 => 92 | 16 => 93 | 17 => 94 | 18 => 95 | 30 => 98 | 31 => 99 | 32 => 100 | 33 => 101 | 34 => 102 | 35 => 103 | 40 => 104 | n => n, fun | 23 => 36 | 25 => 3 | 3 => 3 | 32 => 151 | 22 => 36 | 0 => 0 | 44 => 160 | 46 => 53 | 4 => 4 | 36 => 154 | 35 => 153 | 41 => 41 | 5 => 5 | 9 => 9 | 53 => 162 | 57 => 166 | 63 => 168 | 64 => 169 | n => n, fun | n => n⟩
theorem sortI : Go.Proofs.SlLaysM.n5 Try.prog sortI_ren := { mixed := by kernel_rfl, f5 := ⟨Try.f77.name, by decide, Try.func77.trans (congrArg some (by kernel_rfl))⟩, f7 := ⟨Try.f85.name, by decide, Try.func85.trans (congrArg some (by kernel_rfl))⟩, f8 := Try.func86.trans (congrArg some (by kernel_rfl)), f10 := ⟨Try.f87.name, by decide, Try.func87.trans (congrArg some (by kernel_rfl))⟩, f11 := ⟨Try.f88.name, by decide, Try.func88.trans (congrArg some (by kernel_rfl))⟩, f12 := ⟨Try.f89.name, by decide, Try.func89.trans (congrArg some (by kernel_rfl))⟩, f13 := ⟨Try.f90.name, by decide, Try.func90.trans (congrArg some (by kernel_rfl))⟩, f14 := ⟨Try.f91.name, by decide, Try.func91.trans (congrArg some (by kernel_rfl))⟩, f15 := ⟨Try.f92.name, by decide, Try.func92.trans (congrArg some (by kernel_rfl))⟩, f16 := ⟨Try.f93.name, by decide, Try.func93.trans (congrArg some (by kernel_rfl))⟩, f17 := ⟨Try.f94.name, by decide, Try.func94.trans (congrArg some (by kernel_rfl))⟩, f18 := ⟨Try.f95.name, by decide, Try.func95.trans (congrArg some (by kernel_rfl))⟩, f19 := Try.func96.trans (congrArg some (by kernel_rfl)), f20 := Try.func97.trans (congrArg some (by kernel_rfl)), f30 := ⟨Try.f98.name, by decide, Try.func98.trans (congrArg some (by kernel_rfl))⟩, f31 := Try.func99.trans (congrArg some (by kernel_rfl)), f32 := Try.func100.trans (congrArg some (by kernel_rfl)), f33 := ⟨Try.f101.name, by decide, Try.func101.trans (congrArg some (by kernel_rfl))⟩, f34 := ⟨Try.f102.name, by decide, Try.func102.trans (congrArg some (by kernel_rfl))⟩, f35 := ⟨Try.f103.name, by decide, Try.func103.trans (congrArg some (by kernel_rfl))⟩, f40 := ⟨Try.f104.name, by decide, Try.func104.trans (congrArg some (by kernel_rfl))⟩, t0 := Try.underlying0, a0 := Try.isAgg0, z0 := Try.sizeOf0, v0 := Try.zeroValue0, t3 := Try.underlying3, a3 := Try.isAgg3, z3 := Try.sizeOf3, v3 := Try.zeroValue3, t4 := Try.underlying4, a4 := Try.isAgg4, z4 := Try.sizeOf4, v4 := Try.zeroValue4, t5 := Try.underlying5, a5 := Try.isAgg5, z5 := Try.sizeOf5, v5 := Try.zeroValue5, t9 := Try.underlying9, a9 := Try.isAgg9, z9 := Try.sizeOf9, v9 := Try.zeroValue9, t22 := Try.underlying36, a22 := Try.isAgg36, z22 := Try.sizeOf36, v22 := Try.zeroValue36, t23 := Try.underlying36, a23 := Try.isAgg36, z23 := Try.sizeOf36, v23 := Try.zeroValue36, t25 := Try.underlying3, a25 := Try.isAgg3, z25 := Try.sizeOf3, v25 := Try.zeroValue3, t32 := Try.underlying151, a32 := Try.isAgg151, z32 := Try.sizeOf151, v32 := Try.zeroValue151, t35 := Try.underlying153, a35 := Try.isAgg153, z35 := Try.sizeOf153, v35 := Try.zeroValue153, t36 := Try.underlying154, a36 := Try.isAgg154, z36 := Try.sizeOf154, v36 := Try.zeroValue154, t41 := Try.underlying41, a41 := Try.isAgg41, z41 := Try.sizeOf41, v41 := Try.zeroValue41, t44 := Try.underlying160, a44 := Try.isAgg160, z44 := Try.sizeOf160, v44 := Try.zeroValue160, t46 := Try.underlying53, a46 := Try.isAgg53, z46 := Try.sizeOf53, v46 := Try.zeroValue53, t53 := Try.underlying162, a53 := Try.isAgg162, z53 := Try.sizeOf162, v53 := Try.zeroValue162, t57 := Try.underlying166, a57 := Try.isAgg166, z57 := Try.sizeOf166, v57 := Try.zeroValue166, t63 := Try.underlying168, a63 := Try.isAgg168, z63 := Try.sizeOf168, v63 := Try.zeroValue168, t64 := Try.underlying169, a64 := Try.isAgg169, z64 := Try.sizeOf169, v64 := Try.zeroValue169 }


theorem sortsI (m : Nat) : AnyZI.SortsIn Try.prog sortedI_ren Fence.wide m :=
  ⟨fun blk off cap ss W hH hblk hsz => callsIn_wide.2 (AnyM.slices_Sort_int sortI blk off cap ss W hH hblk hsz), fun p cap W => callsIn_wide.2 (AnyM.slices_Sort_int_none sortI p cap W)⟩
/-- The sectors that are not sure, rising. -/
def pend (D : DS) : List Int := (D.m.map (·.1)).mergeSort fun x y => decide (x ≤ y)
theorem len_nodup : ∀ {n : Nat} {l : List Int}, l.Nodup → (∀ x ∈ l, 0 ≤ x ∧ x < n) → l.length ≤ n
  | 0, l, _, h => by
    cases l with
    | nil => simp
    | cons a l => have := h a List.mem_cons_self; omega
  | n + 1, l, hn, h => by
    have hf := len_nodup (n := n) (l := l.filter (fun x : Int => decide (x ≠ (n : Int)))) (hn.filter _) (fun x hx => by
      have h1 := List.mem_filter.1 hx
      have := h x h1.1
      have h2 : x ≠ n := by simpa using h1.2
      omega)
    have hc : l.length ≤ (l.filter (fun x : Int => decide (x ≠ (n : Int)))).length + 1 := by
      clear hf h
      induction l with
      | nil => simp
      | cons a l ih =>
        have hn' := List.nodup_cons.1 hn
        by_cases ha : a = (n : Int)
        · have : l.filter (fun x : Int => decide (x ≠ (n : Int))) = l := List.filter_eq_self.2 fun x hx => by
            simp; rintro rfl; exact hn'.1 (by rw [ha]; exact hx)
          rw [List.filter_cons_of_neg (by simp [ha]), this]; simp
        · rw [List.filter_cons_of_pos (by simp [ha])]
          have := ih hn'.2
          rw [List.length_cons, List.length_cons]; omega
    omega
theorem ents_le {D : DS} (hok : DOK D) : D.m.length ≤ 64 := by
  have := len_nodup (n := D.n) hok.keys (fun x hx => by
    obtain ⟨e, he, rfl⟩ := List.mem_map.1 hx
    exact (hok.ents e he).1)
  have h64 := hok.n64
  simp at this; omega
theorem pend_perm {D : DS} : (pend D).Perm (D.m.map (·.1)) := List.mergeSort_perm _ _
set_option maxRecDepth 8000 in
open Go.WideElems in
theorem owns_map {D : DS} (hok : DOK D) {m : Nat} {w : World} (hm : w.heap[m]? = some (mapO .i64 (D.m.map sE) D.ck)) :
    ∃ D0 : DataW Unit, w.ownsMap Try.prog 3 (fun _ => some (.nil, [])) m D.m.length D0 ∧ Maps.size D0 ≤ D.m.length ∧ ∀ ss : List Int, ss.Perm (intKeys D0) → ss.Perm (D.m.map (·.1)) := by
  have hlen : ((entL .i64 (D.m.map sE)).toArray).size = D.m.length := by simp [entL]
  have hkey : ∀ x ∈ entL .i64 (D.m.map sE), ∃ e ∈ D.m, x = ⟨.int .i64 e.1, AG [(64, iv .u8 e.2.1)], e.2.2⟩ := fun x hx => by
    obtain ⟨e, he, rfl⟩ := entL_mem hx
    obtain ⟨e', he', rfl⟩ := List.mem_map.1 he
    exact ⟨e', he', rfl⟩
  have hko : ∀ e ∈ D.m, keyOf Try.prog 3 (.int .i64 e.1) = some (.int .i64 e.1) := fun e he => by
    have hw : (Lit.int .i64 e.1).wf = true := by
      have := (hok.ents e he).1
      have := hok.n64
      simp [Lit.wf, IntKind.min, IntKind.max, IntKind.signed, IntKind.bits]
      omega
    simp [keyOf, Try.underlying3, mapKey, hw]
  have hrg : ∀ e ∈ D.m, (WideElems.rg Try.prog 3 (fun _ => some ((.nil : DataW Unit), ([] : List MemPlace))) ⟨.int .i64 e.1, AG [(64, iv .u8 e.2.1)], e.2.2⟩).1 = .int .i64 e.1 := fun e he => by
    simp [WideElems.rg, WideElems.rd, hko e he]
  have hml : D.m.length ≤ 64 := ents_le hok
  have hfit : WideElems.Fit Try.prog 3 (fun _ => some ((.nil : DataW Unit), ([] : List MemPlace))) (entL .i64 (D.m.map sE)).toArray D.ck := by
    refine ⟨by rw [hlen]; unfold maxLen; omega, ?_, fun x hx => ?_⟩
    · refine ⟨fun x hx => ?_, ?_, ?_⟩
      · obtain ⟨e, he, rfl⟩ := hkey x (by simpa using hx)
        exact (hok.ents e he).2.2
      · simpa [entL, List.map_map, Function.comp_def, sE] using hok.borns
      · have : (D.m.map fun e => Value.int .i64 e.1).Nodup := by
          have h := hok.keys
          rw [List.nodup_iff_pairwise_ne, List.pairwise_map] at h ⊢
          exact h.imp fun hne e => hne (by injection e)
        simpa [entL, List.map_map, Function.comp_def, sE] using this
    · obtain ⟨e, he, rfl⟩ := hkey x (by simpa using hx)
      exact ⟨_, WideElems.rd_mk (hko e he) rfl⟩
  refine ⟨_, ⟨_, D.ck, hm, hfit, by rw [hlen]; exact Nat.le_refl _, rfl⟩, ?_, fun ss hss => ?_⟩
  · show List.length _ ≤ _
    rw [length_sorted]; simp [entL]
  · refine hss.trans ?_
    show (((entL .i64 (D.m.map sE)).toArray.toList.map (WideElems.rg Try.prog 3 _)).foldr DataW.insert []).map (fun p => Go.intOf p.1) |>.Perm (D.m.map (·.1))
    refine ((Go.WideShapes.sorted_perm _).map _).trans ?_
    have : ((entL .i64 (D.m.map sE)).toArray.toList.map (WideElems.rg Try.prog 3 fun _ => some ((.nil : DataW Unit), ([] : List MemPlace)))).map (fun p => Go.intOf p.1) = D.m.map (·.1) := by
      simp only [entL, List.map_map]
      refine List.map_congr_left fun e he => ?_
      have := congrArg Go.intOf (hrg e he)
      exact this
    rw [this]
theorem HP.ofBelow {w w' : World} {L : List (Nat × Blk)} (hb : Below w.heap.size w w') (hh : ∀ p ∈ L, p.2.Is w'.heap[p.1]?) (ho : ∀ p ∈ L, w.heap.size ≤ p.1) (hn : (L.map (·.1)).Nodup) : HP w w' [] L :=
  ⟨hb.os, hb.tape, hb.output, hb.size, fun b h _ => hb.block b h, hh, fun p hp => .inr (ho p hp), hn⟩
theorem keysI_calls (m : Nat) (w : World) : Calls Try.prog 63 [.map (some m)].toArray w fun e w' => ∃ r : Nat, True ∧ e = .returned (.func (.func 78) #[] #[.pointer (some ⟨r, 0, none⟩)]) ∧ HP w w' [] [(r, .cells [(1, [.map (some m)])] 99)] := by
  have h := callsIn_wide.1 (AnyZI.keys_in keysI Fence.wide 5 trivial rfl (some m) w)
  refine h.mono fun e w' ⟨he, hw⟩ => ⟨w.heap.size, trivial, he, ?_⟩
  subst hw
  exact (HP.refl w []).alloc ⟨Fit.mk rfl Fit.nil, rfl⟩
theorem sortedI_calls {D : DS} (hok : DOK D) (m b : Nat) (w : World) (hb : AtW w b [(1, [.map (some m)])]) (hm : (Blk.obj (mapO .i64 (D.m.map sE) D.ck)).Is w.heap[m]?) :
    Calls Try.prog 62 [.func (.func 78) #[] #[.pointer (some ⟨b, 0, none⟩)]].toArray w fun e w' => ∃ o : Gr, GrOK o D.m.length ∧ e = .returned (.slice (gA o) D.m.length (gC o)) ∧ HP w w' [] (gL o D.m.length (iv .i64 (pend D)) 3) := by
  obtain ⟨hfit, t, fz, hcb⟩ := hb
  obtain ⟨D0, hown, hsz, hperm⟩ := owns_map hok hm.2
  have hml := ents_le hok
  have hc : w.cell? ⟨b, 0, none⟩ = some (.map (some m)) := (cell_of_heap hcb 0).trans rfl
  have hlt : b < w.heap.size := (Array.getElem?_eq_some_iff.1 hcb).1
  have hseq : SeqGives Fence.wide 2 Try.prog 78 #[.pointer (some ⟨b, 0, none⟩)] encZ (fun ss => ss.Perm (intKeys D0)) (Maps.size D0) w :=
    AnyZI.keys_gives (ρ := keysI_ren) { keysI with } Fence.wide _ trivial rfl (by omega) b m D.m.length D0 _ hlt hc hown
  have hS := callsIn_wide.1 (AnyZI.sorted_in sortedI Fence.wide 5 trivial trivial trivial trivial rfl (by omega) (sortsI _) (enters_of Try.func77 (by kernel_rfl) rfl) 78 #[.pointer (some ⟨b, 0, none⟩)] trivial (enters_of Try.func78 (by kernel_rfl) rfl) _ _ (by unfold maxLen; omega) (by omega) w hseq)
  refine hS.mono fun e w' ⟨v, ss, he, hss, hrow, hnil, hbel⟩ => ?_
  have hp := hperm ss hss
  have hlen : ss.length = D.m.length := by rw [hp.length_eq]; simp
  have hpe : ss.mergeSort (fun x y => decide (x ≤ y)) = pend D := mergeSort_of_perm_i hp
  rw [hpe, hlen] at hrow
  obtain ⟨hl, hrow⟩ := hrow
  rcases hrow with ⟨rfl, h0⟩ | ⟨g, cap, cur, rfl, hbase, hgb, r1, r2, r3, r4⟩
  · refine ⟨none, h0, by rw [he, h0]; rfl, HP.ofBelow hbel (fun p hp => by cases hp) (fun p hp => by cases hp) List.nodup_nil⟩
  · refine ⟨some (g, cap, cur.toList.drop D.m.length), r1, he, HP.ofBelow hbel (fun p hp => ?_) (fun p hp => ?_) (by simp [gL])⟩
    · rw [List.mem_singleton.1 hp]
      simp only [Nat.mul_one] at r4 r3 hl
      refine ⟨Fit.mk (by rw [iv_len]; simpa using hl) (Fit.mk (by simp [r3]) Fit.nil), ?_⟩
      rw [hgb]
      congr 2
      rw [← Array.toList_inj]
      simp only [flat_cons]
      show cur.toList = iv .i64 (pend D) ++ (cur.toList.drop D.m.length ++ [])
      rw [List.append_nil, show iv .i64 (pend D) = (pend D).map encZ from rfl, ← r4, List.take_append_drop]
    · rw [List.mem_singleton.1 hp]; exact hbase
end Go.Proofs.Ytnpnnafcdnefiaa

namespace Go.Proofs.Ytnpnnafcdnefiaa
open Go.X

theorem pend21_calls (K : DK) (D : DS) (hok : DOK D) (w : World) (hd : HP w w [K.d, K.s, K.m] [(K.d, .cells [(1, [.slice (some ⟨K.s, 0, none⟩) D.n D.n]), (1, [.map (some K.m)]), (1, [.int .i64 D.fuse]), (1, [.bool D.dead])] 101), (K.s, .cells [(D.n * 64, iv .u8 D.sure.flatten)] 58), (K.m, .obj (mapO .i64 (D.m.map sE) D.ck))]) :
    Calls Try.prog 34 [.pointer (some ⟨K.d, 0, none⟩)].toArray w fun e w' => ∃ o : Gr, GrOK o D.m.length ∧ e = .returned (.slice (gA o) D.m.length (gC o)) ∧ HP w w' [K.d, K.s, K.m] ([(K.d, .cells [(1, [.slice (some ⟨K.s, 0, none⟩) D.n D.n]), (1, [.map (some K.m)]), (1, [.int .i64 D.fuse]), (1, [.bool D.dead])] 101), (K.s, .cells [(D.n * 64, iv .u8 D.sure.flatten)] 58), (K.m, .obj (mapO .i64 (D.m.map sE) D.ck))] ++ gL o D.m.length (iv .i64 (pend D)) 3) := by
 refine calls_of_W Try.func34 rfl Try.ntmps34 rfl rfl hd ?_
 refine sr ?_
 refine oas ?_
 refine nx ?_
 refine omv ?_
 refine ov vnil ?_
 refine ov (vfa0 1 1) ?_
 refine ov vld ?_
 refine cg rfl (fun w hp => keysI_calls _ w) (fun b7 h7 => ?_)
 refine cgG rfl (fun w hp => sortedI_calls hok K.m b7 w hat (hh hp)) (fun o8 h8 => ?_)
 refine oas ?_
 refine nq ?_
 refine W.ret ?_
 refine WQ.ret1 Try.results34 (.tmp rfl) ?_
 intro w' hp; exact ⟨o8, h8, rfl, hp.cov cov⟩

end Go.Proofs.Ytnpnnafcdnefiaa