/- Disks: what is pending (maps.Keys, slices.Sorted: the kit's shelf). -/
import Derived.Test.YtmeckbjinmgbbaaGreatDisk3
import Derived.Test.YtmeckbjinmgbbaaGreatXC
import Derived.Shelf.SlIterI.Nil
import Derived.Shelf.SortM.Plain
import Derived.Shelf.SortM.SortNone
set_option linter.unusedVariables false
set_option linter.unusedSimpArgs false

namespace Go.Proofs.YtmeckbjinmgbbaaGreat
open Go.RowKit Go.Maps Go.Sort Go.Shelf Go.X

def keysI_ren : Go.Shelf.Ren := ⟨fun | 7 => 85 | 10 => 122 | n => n, fun | 23 => 72 | 26 => 3 | 3 => 115 | 28 => 188 | 0 => 0 | 27 => 187 | 33 => 135 | 4 => 4 | n => n, fun | n => n⟩
theorem keysI : Go.Proofs.SlLaysZI.n7 Tryz.prog keysI_ren := { mixed := by kernel_rfl, f7 := ⟨Tryz.f85.name, by decide, Tryz.func85.trans (congrArg some (by kernel_rfl))⟩, f10 := ⟨Tryz.f122.name, by decide, Tryz.func122.trans (congrArg some (by kernel_rfl))⟩, t0 := Tryz.underlying0, a0 := Tryz.isAgg0, z0 := Tryz.sizeOf0, v0 := Tryz.zeroValue0, t4 := Tryz.underlying4, a4 := Tryz.isAgg4, z4 := Tryz.sizeOf4, v4 := Tryz.zeroValue4, t23 := Tryz.underlying72, a23 := Tryz.isAgg72, z23 := Tryz.sizeOf72, v23 := Tryz.zeroValue72, t26 := Tryz.underlying3, a26 := Tryz.isAgg3, z26 := Tryz.sizeOf3, v26 := Tryz.zeroValue3, t27 := Tryz.underlying187, a27 := Tryz.isAgg187, z27 := Tryz.sizeOf187, v27 := Tryz.zeroValue187, t28 := Tryz.underlying188, a28 := Tryz.isAgg188, z28 := Tryz.sizeOf188, v28 := Tryz.zeroValue188, t33 := Tryz.underlying135, a33 := Tryz.isAgg135, z33 := Tryz.sizeOf135, v33 := Tryz.zeroValue135 }

def sortedI_ren : Go.Shelf.Ren := ⟨fun | 6 => 84 | 8 => 120 | 9 => 121 | 11 => 136 | 13 => 138 | 12 => 137 | 23 => 156 | 24 => 157 | 14 => 147 | 15 => 148 | 16 => 149 | 17 => 150 | 18 => 151 | 19 => 152 | 20 => 153 | 21 => 154 | 22 => 155 | 25 => 162 | 26 => 163 | 27 => 164 | 28 => 165 | 29 => 166 | 30 => 167 | 31 => 169 | n => n, fun | 26 => 3 | 28 => 188 | 24 => 40 | 0 => 0 | 3 => 3 | 37 => 227 | 48 => 223 | 50 => 41 | 4 => 4 | 40 => 250 | 39 => 249 | 45 => 255 | 5 => 5 | 9 => 9 | 51 => 264 | 55 => 268 | 57 => 270 | 58 => 271 | 33 => 135 | n => n, fun | n => n⟩
theorem sortedI : Go.Proofs.SlLaysZI.n6 Tryz.prog sortedI_ren := { mixed := by kernel_rfl, f6 := ⟨Tryz.f84.name, by decide, Tryz.func84.trans (congrArg some (by kernel_rfl))⟩, f8 := ⟨Tryz.f120.name, by decide, Tryz.func120.trans (congrArg some (by kernel_rfl))⟩, f11 := ⟨Tryz.f136.name, by decide, Tryz.func136.trans (congrArg some (by kernel_rfl))⟩, t0 := Tryz.underlying0, a0 := Tryz.isAgg0, z0 := Tryz.sizeOf0, v0 := Tryz.zeroValue0, t24 := Tryz.underlying40, a24 := Tryz.isAgg40, z24 := Tryz.sizeOf40, v24 := Tryz.zeroValue40, t26 := Tryz.underlying3, a26 := Tryz.isAgg3, z26 := Tryz.sizeOf3, v26 := Tryz.zeroValue3, t28 := Tryz.underlying188, a28 := Tryz.isAgg188, z28 := Tryz.sizeOf188, v28 := Tryz.zeroValue188, i26 := by kernel_rfl }

def sortI_ren : Go.Shelf.Ren := ⟨fun | 5 => 121 | 8 => 138 | 7 => 137 | 19 => 156 | 20 => 157 | 10 => 147 | 11 => 148 | 12 => 149 | 13 => 150 | 14 => 151 | 15 => 152 | 16 => 153 | 17 => 154 | 18 => 155 | 30 => 162 | 31 => 163 | 32 => 164 | 33 => 165 | 34 => 166 | 35 => 167 | 40 => 169 | n => n, fun | 23 => 40 | 25 => 3 | 3 => 3 | 32 => 227 | 22 => 40 | 0 => 0 | 44 => 223 | 46 => 41 | 4 => 4 | 36 => 250 | 35 => 249 | 41 => 255 | 5 => 5 | 9 => 9 | 53 => 264 | 57 => 268 | 63 => 270 | 64 => 271 | n => n, fun | n => n⟩
theorem sortI : Go.Proofs.SlLaysM.n5 Tryz.prog sortI_ren := { mixed := by kernel_rfl, f5 := ⟨Tryz.f121.name, by decide, Tryz.func121.trans (congrArg some (by kernel_rfl))⟩, f7 := ⟨Tryz.f137.name, by decide, Tryz.func137.trans (congrArg some (by kernel_rfl))⟩, f8 := Tryz.func138.trans (congrArg some (by kernel_rfl)), f10 := ⟨Tryz.f147.name, by decide, Tryz.func147.trans (congrArg some (by kernel_rfl))⟩, f11 := ⟨Tryz.f148.name, by decide, Tryz.func148.trans (congrArg some (by kernel_rfl))⟩, f12 := ⟨Tryz.f149.name, by decide, Tryz.func149.trans (congrArg some (by kernel_rfl))⟩, f13 := ⟨Tryz.f150.name, by decide, Tryz.func150.trans (congrArg some (by kernel_rfl))⟩, f14 := ⟨Tryz.f151.name, by decide, Tryz.func151.trans (congrArg some (by kernel_rfl))⟩, f15 := ⟨Tryz.f152.name, by decide, Tryz.func152.trans (congrArg some (by kernel_rfl))⟩, f16 := ⟨Tryz.f153.name, by decide, Tryz.func153.trans (congrArg some (by kernel_rfl))⟩, f17 := ⟨Tryz.f154.name, by decide, Tryz.func154.trans (congrArg some (by kernel_rfl))⟩, f18 := ⟨Tryz.f155.name, by decide, Tryz.func155.trans (congrArg some (by kernel_rfl))⟩, f19 := Tryz.func156.trans (congrArg some (by kernel_rfl)), f20 := Tryz.func157.trans (congrArg some (by kernel_rfl)), f30 := ⟨Tryz.f162.name, by decide, Tryz.func162.trans (congrArg some (by kernel_rfl))⟩, f31 := Tryz.func163.trans (congrArg some (by kernel_rfl)), f32 := Tryz.func164.trans (congrArg some (by kernel_rfl)), f33 := ⟨Tryz.f165.name, by decide, Tryz.func165.trans (congrArg some (by kernel_rfl))⟩, f34 := ⟨Tryz.f166.name, by decide, Tryz.func166.trans (congrArg some (by kernel_rfl))⟩, f35 := ⟨Tryz.f167.name, by decide, Tryz.func167.trans (congrArg some (by kernel_rfl))⟩, f40 := ⟨Tryz.f169.name, by decide, Tryz.func169.trans (congrArg some (by kernel_rfl))⟩, t0 := Tryz.underlying0, a0 := Tryz.isAgg0, z0 := Tryz.sizeOf0, v0 := Tryz.zeroValue0, t3 := Tryz.underlying3, a3 := Tryz.isAgg3, z3 := Tryz.sizeOf3, v3 := Tryz.zeroValue3, t4 := Tryz.underlying4, a4 := Tryz.isAgg4, z4 := Tryz.sizeOf4, v4 := Tryz.zeroValue4, t5 := Tryz.underlying5, a5 := Tryz.isAgg5, z5 := Tryz.sizeOf5, v5 := Tryz.zeroValue5, t9 := Tryz.underlying9, a9 := Tryz.isAgg9, z9 := Tryz.sizeOf9, v9 := Tryz.zeroValue9, t22 := Tryz.underlying40, a22 := Tryz.isAgg40, z22 := Tryz.sizeOf40, v22 := Tryz.zeroValue40, t23 := Tryz.underlying40, a23 := Tryz.isAgg40, z23 := Tryz.sizeOf40, v23 := Tryz.zeroValue40, t25 := Tryz.underlying3, a25 := Tryz.isAgg3, z25 := Tryz.sizeOf3, v25 := Tryz.zeroValue3, t32 := Tryz.underlying227, a32 := Tryz.isAgg227, z32 := Tryz.sizeOf227, v32 := Tryz.zeroValue227, t35 := Tryz.underlying249, a35 := Tryz.isAgg249, z35 := Tryz.sizeOf249, v35 := Tryz.zeroValue249, t36 := Tryz.underlying250, a36 := Tryz.isAgg250, z36 := Tryz.sizeOf250, v36 := Tryz.zeroValue250, t41 := Tryz.underlying255, a41 := Tryz.isAgg255, z41 := Tryz.sizeOf255, v41 := Tryz.zeroValue255, t44 := Tryz.underlying223, a44 := Tryz.isAgg223, z44 := Tryz.sizeOf223, v44 := Tryz.zeroValue223, t46 := Tryz.underlying41, a46 := Tryz.isAgg41, z46 := Tryz.sizeOf41, v46 := Tryz.zeroValue41, t53 := Tryz.underlying264, a53 := Tryz.isAgg264, z53 := Tryz.sizeOf264, v53 := Tryz.zeroValue264, t57 := Tryz.underlying268, a57 := Tryz.isAgg268, z57 := Tryz.sizeOf268, v57 := Tryz.zeroValue268, t63 := Tryz.underlying270, a63 := Tryz.isAgg270, z63 := Tryz.sizeOf270, v63 := Tryz.zeroValue270, t64 := Tryz.underlying271, a64 := Tryz.isAgg271, z64 := Tryz.sizeOf271, v64 := Tryz.zeroValue271 }


theorem sortsI (m : Nat) : AnyZI.SortsIn Tryz.prog sortedI_ren Fence.wide m := -- of 85
  ⟨fun blk off cap ss W hH hblk hsz => callsIn_wide.2 (AnyM.slices_Sort_int sortI blk off cap ss W hH hblk hsz), fun p cap W => callsIn_wide.2 (AnyM.slices_Sort_int_none sortI p cap W)⟩
/-- The sectors that are not sure, rising. -/
def pend (D : DS) : List Int := (D.m.map (·.1)).mergeSort fun x y => decide (x ≤ y)
theorem len_nodup : ∀ {n : Nat} {l : List Int}, l.Nodup → (∀ x ∈ l, 0 ≤ x ∧ x < n) → l.length ≤ n
  | 0, l, _, h => by
    cases l with
    | nil => simp
    | cons a l => have := h a List.mem_cons_self; omega
  | n + 1, l, hn, h => by
    have hf := len_nodup (n := n) (l := l.filter (fun x : Int => decide (x ≠ (n : Int)))) (hn.filter _) (fun x hx => by
      have h1 := List.mem_filter.1 hx
      have := h x h1.1
      have h2 : x ≠ n := by simpa using h1.2
      omega)
    have hc : l.length ≤ (l.filter (fun x : Int => decide (x ≠ (n : Int)))).length + 1 := by
      clear hf h
      induction l with
      | nil => simp
      | cons a l ih =>
        have hn' := List.nodup_cons.1 hn
        by_cases ha : a = (n : Int)
        · have : l.filter (fun x : Int => decide (x ≠ (n : Int))) = l := List.filter_eq_self.2 fun x hx => by
            simp; rintro rfl; exact hn'.1 (by rw [ha]; exact hx)
          rw [List.filter_cons_of_neg (by simp [ha]), this]; simp
        · rw [List.filter_cons_of_pos (by simp [ha])]
          have := ih hn'.2
          rw [List.length_cons, List.length_cons]; omega
    omega
theorem ents_le {D : DS} (hok : DOK D) : D.m.length ≤ 64 := by
  have := len_nodup (n := D.n) hok.keys (fun x hx => by
    obtain ⟨e, he, rfl⟩ := List.mem_map.1 hx
    exact (hok.ents e he).1)
  have h64 := hok.n64
  simp at this; omega
theorem pend_perm {D : DS} : (pend D).Perm (D.m.map (·.1)) := List.mergeSort_perm _ _
set_option maxRecDepth 8000 in
open Go.WideElems in
theorem owns_map {D : DS} (hok : DOK D) {m : Nat} {w : World} (hm : w.heap[m]? = some (mapO .i64 (D.m.map sE) D.ck)) :
    ∃ D0 : DataW Unit, w.ownsMap Tryz.prog 3 (fun _ => some (.nil, [])) m D.m.length D0 ∧ Maps.size D0 ≤ D.m.length ∧ ∀ ss : List Int, ss.Perm (intKeys D0) → ss.Perm (D.m.map (·.1)) := by
  have hlen : ((entL .i64 (D.m.map sE)).toArray).size = D.m.length := by simp [entL]
  have hkey : ∀ x ∈ entL .i64 (D.m.map sE), ∃ e ∈ D.m, x = ⟨.int .i64 e.1, AG [(64, iv .u8 e.2.1)], e.2.2⟩ := fun x hx => by
    obtain ⟨e, he, rfl⟩ := entL_mem hx
    obtain ⟨e', he', rfl⟩ := List.mem_map.1 he
    exact ⟨e', he', rfl⟩
  have hko : ∀ e ∈ D.m, keyOf Tryz.prog 3 (.int .i64 e.1) = some (.int .i64 e.1) := fun e he => by
    have hw : (Lit.int .i64 e.1).wf = true := by
      have := (hok.ents e he).1
      have := hok.n64
      simp [Lit.wf, IntKind.min, IntKind.max, IntKind.signed, IntKind.bits]
      omega
    simp [keyOf, Tryz.underlying3, mapKey, hw]
  have hrg : ∀ e ∈ D.m, (WideElems.rg Tryz.prog 3 (fun _ => some ((.nil : DataW Unit), ([] : List MemPlace))) ⟨.int .i64 e.1, AG [(64, iv .u8 e.2.1)], e.2.2⟩).1 = .int .i64 e.1 := fun e he => by
    simp [WideElems.rg, WideElems.rd, hko e he]
  have hml : D.m.length ≤ 64 := ents_le hok
  have hfit : WideElems.Fit Tryz.prog 3 (fun _ => some ((.nil : DataW Unit), ([] : List MemPlace))) (entL .i64 (D.m.map sE)).toArray D.ck := by
    refine ⟨by rw [hlen]; unfold maxLen; omega, ?_, fun x hx => ?_⟩
    · refine ⟨fun x hx => ?_, ?_, ?_⟩
      · obtain ⟨e, he, rfl⟩ := hkey x (by simpa using hx)
        exact (hok.ents e he).2.2
      · simpa [entL, List.map_map, Function.comp_def, sE] using hok.borns
      · have : (D.m.map fun e => Value.int .i64 e.1).Nodup := by
          have h := hok.keys
          rw [List.nodup_iff_pairwise_ne, List.pairwise_map] at h ⊢
          exact h.imp fun hne e => hne (by injection e)
        simpa [entL, List.map_map, Function.comp_def, sE] using this
    · obtain ⟨e, he, rfl⟩ := hkey x (by simpa using hx)
      exact ⟨_, WideElems.rd_mk (hko e he) rfl⟩
  refine ⟨_, ⟨_, D.ck, hm, hfit, by rw [hlen]; exact Nat.le_refl _, rfl⟩, ?_, fun ss hss => ?_⟩
  · show List.length _ ≤ _
    rw [length_sorted]; simp [entL]
  · refine hss.trans ?_
    show (((entL .i64 (D.m.map sE)).toArray.toList.map (WideElems.rg Tryz.prog 3 _)).foldr DataW.insert []).map (fun p => Go.intOf p.1) |>.Perm (D.m.map (·.1))
    refine ((Go.WideShapes.sorted_perm _).map _).trans ?_
    have : ((entL .i64 (D.m.map sE)).toArray.toList.map (WideElems.rg Tryz.prog 3 fun _ => some ((.nil : DataW Unit), ([] : List MemPlace)))).map (fun p => Go.intOf p.1) = D.m.map (·.1) := by
      simp only [entL, List.map_map]
      refine List.map_congr_left fun e he => ?_
      have := congrArg Go.intOf (hrg e he)
      exact this
    rw [this]
theorem HP.ofBelow {w w' : World} {L : List (Nat × Blk)} (hb : Below w.heap.size w w') (hh : ∀ p ∈ L, p.2.Is w'.heap[p.1]?) (ho : ∀ p ∈ L, w.heap.size ≤ p.1) (hn : (L.map (·.1)).Nodup) : HP w w' [] L :=
  ⟨hb.os, hb.tape, hb.output, hb.size, fun b h _ => hb.block b h, hh, fun p hp => .inr (ho p hp), hn⟩
theorem keysI_calls (m : Nat) (w : World) : Calls Tryz.prog 85 [.map (some m)].toArray w fun e w' => ∃ r : Nat, True ∧ e = .returned (.func (.func 122) #[] #[.pointer (some ⟨r, 0, none⟩)]) ∧ HP w w' [] [(r, .cells [(1, [.map (some m)])] 72)] := by
  have h := callsIn_wide.1 (AnyZI.keys_in keysI Fence.wide 5 trivial rfl (some m) w)
  refine h.mono fun e w' ⟨he, hw⟩ => ⟨w.heap.size, trivial, he, ?_⟩
  subst hw
  exact (HP.refl w []).alloc ⟨Fit.mk rfl Fit.nil, rfl⟩
theorem sortedI_calls {D : DS} (hok : DOK D) (m b : Nat) (w : World) (hb : AtW w b [(1, [.map (some m)])]) (hm : (Blk.obj (mapO .i64 (D.m.map sE) D.ck)).Is w.heap[m]?) :
    Calls Tryz.prog 84 [.func (.func 122) #[] #[.pointer (some ⟨b, 0, none⟩)]].toArray w fun e w' => ∃ o : Gr, GrOK o D.m.length ∧ e = .returned (.slice (gA o) D.m.length (gC o)) ∧ HP w w' [] (gL o D.m.length (iv .i64 (pend D)) 3) := by
  obtain ⟨hfit, t, fz, hcb⟩ := hb
  obtain ⟨D0, hown, hsz, hperm⟩ := owns_map hok hm.2
  have hml := ents_le hok
  have hc : w.cell? ⟨b, 0, none⟩ = some (.map (some m)) := (cell_of_heap hcb 0).trans rfl
  have hlt : b < w.heap.size := (Array.getElem?_eq_some_iff.1 hcb).1
  have hseq : SeqGives Fence.wide 2 Tryz.prog 122 #[.pointer (some ⟨b, 0, none⟩)] encZ (fun ss => ss.Perm (intKeys D0)) (Maps.size D0) w :=
    AnyZI.keys_gives (ρ := keysI_ren) { keysI with } Fence.wide _ trivial rfl (by omega) b m D.m.length D0 _ hlt hc hown
  have hS := callsIn_wide.1 (AnyZI.sorted_in sortedI Fence.wide 5 trivial trivial trivial trivial rfl (by omega) (sortsI _) (enters_of Tryz.func121 (by kernel_rfl) rfl) 122 #[.pointer (some ⟨b, 0, none⟩)] trivial (enters_of Tryz.func122 (by kernel_rfl) rfl) _ _ (by unfold maxLen; omega) (by omega) w hseq)
  refine hS.mono fun e w' ⟨v, ss, he, hss, hrow, hnil, hbel⟩ => ?_
  have hp := hperm ss hss
  have hlen : ss.length = D.m.length := by rw [hp.length_eq]; simp
  have hpe : ss.mergeSort (fun x y => decide (x ≤ y)) = pend D := mergeSort_of_perm_i hp
  rw [hpe, hlen] at hrow
  obtain ⟨hl, hrow⟩ := hrow
  rcases hrow with ⟨rfl, h0⟩ | ⟨g, cap, cur, rfl, hbase, hgb, r1, r2, r3, r4⟩
  · refine ⟨none, h0, by rw [he, h0]; rfl, HP.ofBelow hbel (fun p hp => by cases hp) (fun p hp => by cases hp) List.nodup_nil⟩
  · refine ⟨some (g, cap, cur.toList.drop D.m.length), r1, he, HP.ofBelow hbel (fun p hp => ?_) (fun p hp => ?_) (by simp [gL])⟩
    · rw [List.mem_singleton.1 hp]
      simp only [Nat.mul_one] at r4 r3 hl
      refine ⟨Fit.mk (by rw [iv_len]; simpa using hl) (Fit.mk (by simp [r3]) Fit.nil), ?_⟩
      rw [hgb]
      congr 2
      rw [← Array.toList_inj]
      simp only [flat_cons]
      show cur.toList = iv .i64 (pend D) ++ (cur.toList.drop D.m.length ++ [])
      rw [List.append_nil, show iv .i64 (pend D) = (pend D).map encZ from rfl, ← r4, List.take_append_drop]
    · rw [List.mem_singleton.1 hp]; exact hbase
end Go.Proofs.YtmeckbjinmgbbaaGreat

namespace Go.Proofs.YtmeckbjinmgbbaaGreat
open Go.X

theorem pend21_calls (K : DK) (D : DS) (hok : DOK D) (w : World) (hd : HP w w [K.d, K.s, K.m] [(K.d, .cells [(1, [.slice (some ⟨K.s, 0, none⟩) D.n D.n]), (1, [.map (some K.m)]), (1, [.int .i64 D.fuse]), (1, [.bool D.dead])] 74), (K.s, .cells [(D.n * 64, iv .u8 D.sure.flatten)] 115), (K.m, .obj (mapO .i64 (D.m.map sE) D.ck))]) :
    Calls Tryz.prog 40 [.pointer (some ⟨K.d, 0, none⟩)].toArray w fun e w' => ∃ o : Gr, GrOK o D.m.length ∧ e = .returned (.slice (gA o) D.m.length (gC o)) ∧ HP w w' [K.d, K.s, K.m] ([(K.d, .cells [(1, [.slice (some ⟨K.s, 0, none⟩) D.n D.n]), (1, [.map (some K.m)]), (1, [.int .i64 D.fuse]), (1, [.bool D.dead])] 74), (K.s, .cells [(D.n * 64, iv .u8 D.sure.flatten)] 115), (K.m, .obj (mapO .i64 (D.m.map sE) D.ck))] ++ gL o D.m.length (iv .i64 (pend D)) 3) := by
 refine calls_of_W Tryz.func40 rfl Tryz.ntmps40 rfl rfl hd ?_
 refine sr ?_
 refine oas ?_
 refine nx ?_
 refine omv ?_
 refine ov vnil ?_
 refine ov (vfa0 1 1) ?_
 refine ov vld ?_
 refine cg rfl (fun w hp => keysI_calls _ w) (fun b7 h7 => ?_)
 refine cgG rfl (fun w hp => sortedI_calls hok K.m b7 w hat (hh hp)) (fun o8 h8 => ?_)
 refine oas ?_
 refine nq ?_
 refine W.ret ?_
 refine WQ.ret1 Tryz.results40 (.tmp rfl) ?_
 intro w' hp; exact ⟨o8, h8, rfl, hp.cov cov⟩

end Go.Proofs.YtmeckbjinmgbbaaGreat
/- Disks: Crash. -/
namespace Go.Proofs.YtmeckbjinmgbbaaGreat
open Go.X
section
variable {c : Cx} {S : Slots} {L : List (Nat × Blk)} {ty T : TypeId} {x y : Operand} {v : Value}
theorem vlk1 {b : Nat} {k : IntKind} {q : Int} {m : List Ent} {clock : Nat} (e : TypeId) (zv : Value) (hm : mget m q = some v) (hx : ev S x = some (.map (some b)) := by exact rfl) (hy : ev S y = some (.int k q) := by exact rfl) (hb : (b, Blk.obj (mapO k m clock)) ∈ L := by exact mm) (ht : mapT c.P T k = some e := by kernel_rfl) (hz : (c.P.info? e).bind (·.zero) = some zv := by kernel_rfl) : Val c S L (.lookup T x y false) ty v := by
  have := V_lookup1 (ty := ty) zv hx hy hb ht hz
  rwa [hm] at this
end
def bitB (kept : Int) (i : Nat) : Bool := decide (andI .u64 (shrI .u64 kept i) 1 = 1)
/-- What is sure when of the pending ones so many have been gone through. -/
def crashN (D : DS) (kept : Int) : Nat → List (List Int)
  | 0 => D.sure
  | i + 1 => if bitB kept i then (crashN D kept i).set ((pend D).getD i 0).toNat (cur D ((pend D).getD i 0).toNat) else crashN D kept i
def crD (D : DS) (kept : Int) : DS := { D with sure := crashN D kept D.m.length, m := [], fuse := -1, dead := false }
theorem pend_len {D : DS} : (pend D).length = D.m.length := by rw [pend_perm.length_eq]; simp
theorem pend_mem {D : DS} (hok : DOK D) {i : Nat} (hi : i < D.m.length) : ∃ s, pget D.m ((pend D).getD i 0) = some s ∧ (0 ≤ (pend D).getD i 0 ∧ (pend D).getD i 0 < D.n) ∧ Sec s ∧ cur D ((pend D).getD i 0).toNat = s := by
  have hil : i < (pend D).length := by rw [pend_len]; exact hi
  have hm : (pend D).getD i 0 ∈ D.m.map (·.1) := by
    rw [List.getD_eq_getElem?_getD, List.getElem?_eq_getElem hil]
    exact pend_perm.subset (List.getElem_mem hil)
  obtain ⟨e, he, heq⟩ := List.mem_map.1 hm
  have hE := hok.ents e he
  have hg := pget_in hok.keys he
  rw [← heq]
  refine ⟨e.2.1, hg, hE.1, hE.2.1, ?_⟩
  unfold cur
  rw [Int.toNat_of_nonneg hE.1.1, hg]; rfl
theorem crashN_len {D : DS} {kept : Int} : ∀ {i : Nat}, (crashN D kept i).length = D.sure.length
  | 0 => rfl
  | i + 1 => by unfold crashN; split <;> simp [crashN_len (i := i)]
theorem crashN_sec {D : DS} (hok : DOK D) {kept : Int} : ∀ {i : Nat}, i ≤ D.m.length → ∀ s ∈ crashN D kept i, Sec s
  | 0, _, s, hs => hok.secs s hs
  | i + 1, hi, s, hs => by
    unfold crashN at hs
    split at hs
    · rcases List.mem_or_eq_of_mem_set hs with h | rfl
      · exact crashN_sec hok (Nat.le_of_succ_le hi) s h
      · obtain ⟨s', _, _, h3, h4⟩ := pend_mem hok (i := i) (by omega)
        rw [h4]; exact h3
    · exact crashN_sec hok (Nat.le_of_succ_le hi) s hs
theorem crD_ok {D : DS} (hok : DOK D) {kept : Int} : DOK (crD D kept) :=
  ⟨hok.n1, hok.n64, by rw [crD]; exact crashN_len.trans hok.len, crashN_sec hok (Nat.le_refl _), (fun e he => by cases he), List.nodup_nil, List.nodup_nil, by simp [crD]⟩
theorem crash_yes {D : DS} {kept : Int} {i : Nat} (h : bitB kept i = true) : (crashN D kept i).set ((pend D).getD i 0).toNat (cur D ((pend D).getD i 0).toNat) = crashN D kept (i + 1) := by rw [crashN, if_pos h]
theorem crash_no {D : DS} {kept : Int} {i : Nat} (h : bitB kept i = false) : crashN D kept i = crashN D kept (i + 1) := by rw [crashN, if_neg (by simp [h])]

theorem crash21_calls (K : DK) (D : DS) (hok : DOK D) (kept : Int) (hkb : 0 ≤ kept ∧ kept ≤ 18446744073709551615) (w : World) (hd : HP w w [K.d, K.s, K.m] [(K.d, .cells [(1, [.slice (some ⟨K.s, 0, none⟩) D.n D.n]), (1, [.map (some K.m)]), (1, [.int .i64 D.fuse]), (1, [.bool D.dead])] 74), (K.s, .cells [(D.n * 64, iv .u8 D.sure.flatten)] 115), (K.m, .obj (mapO .i64 (D.m.map sE) D.ck))]) :
    Calls Tryz.prog 14 [.pointer (some ⟨K.d, 0, none⟩), .int .u64 kept].toArray w fun e w' => e = .returned (.tuple #[]) ∧ HP w w' [K.d, K.s, K.m] [(K.d, .cells [(1, [.slice (some ⟨K.s, 0, none⟩) (crD D kept).n (crD D kept).n]), (1, [.map (some K.m)]), (1, [.int .i64 (crD D kept).fuse]), (1, [.bool (crD D kept).dead])] 74), (K.s, .cells [((crD D kept).n * 64, iv .u8 (crD D kept).sure.flatten)] 115), (K.m, .obj (mapO .i64 ((crD D kept).m.map sE) (crD D kept).ck))] := by
 have hn1 := hok.n1
 have hn64 := hok.n64
 have hfu := hok.fuse
 have hlen := hok.len
 have hml := ents_le hok
 have hpl := pend_len (D := D)
 refine calls_of_W Tryz.func14 rfl Tryz.ntmps14 rfl rfl hd ?_
 refine W.seq ?_
 refine sr ?_
 refine omv ?_
 refine cgX rfl (fun w hp => pend21_calls K D hok w (HP.here hp cov)) (fun b7 h7 => ?_)
 refine ov vlenS ?_
 refine omv ?_
 refine nq ?_
 refine W.block ?_
 -- LOOP 0
 refine W.pick (S' := [(9, _), (0, _), (1, _), (7, _), (8, _)]) [9, 0, 1, 7, 8] rfl ?_
 refine W.loopG (σ := Nat) (fun i => i ≤ D.m.length) (fun i => [(9, .int .i64 (i : Nat))]) (fun i => [(K.s, .cells [(D.n * 64, iv .u8 (crashN D kept i).flatten)] 115)]) [(K.d, _), (K.m, _)] (fun i => gL b7 D.m.length (iv .i64 (pend D)) 3) (fun i => D.m.length - i) 0 rfl cov (Nat.zero_le _) ?_
 rintro i hi
 refine sr ?_
 refine ov (v2 V_lss) ?_
 refine nq ?_
 refine W.seq ?_
 refine W.cond_dec rfl (fun g1 => ?_) (fun g1 => ?_)
 · refine W.skip ?_
   refine WQ.then ?_
   refine W.seq ?_
   refine W.block ?_
   refine W.seq ?_
   obtain ⟨gb, gc, gr, rfl⟩ : ∃ b c r, b7 = some (b, c, r) := by
     cases b7 with
     | none => exact absurd h7 (by show ¬ D.m.length = 0; omega)
     | some q => exact ⟨_, _, _, rfl⟩
   obtain ⟨sx, hq1, hq2, hq3, hq4⟩ := pend_mem hok (i := i) (by omega)
   have hsx := hq3.1
   have hcl := crashN_len (D := D) (kept := kept) (i := i)
   have hcs : ∀ l ∈ crashN D kept i, l.length = 64 := fun l hl => (crashN_sec hok (by omega) l hl).1
   refine W.region ?_
   refine omv ?_
   refine ov (viB) ?_
   refine ov (vldI) ?_
   refine oas ?_
   refine oas ?_
   refine nx ?_
   refine omv ?_
   refine omv ?_
   refine ov (V_shr rfl rfl (by omega)) ?_
   refine ov (v2 V_and) ?_
   refine ov (v2 V_eql) ?_
   refine nq ?_
   refine W.cond_dec rfl (fun g2 => ?_) (fun g2 => ?_)
   · have g2b : bitB kept i = true := decide_eq_true (by assumption)
     have hst : sx = cur D ((pend D).getD i 0).toNat := hq4.symm
     refine dr (.q 0 (.q 1 (.q 2 (.q 3 (.q 4 (.q 5 (.q 6 (.q 7 (.q 8 (.q 9 (.q 10 (.q 11 (.l 12 (.done)))))))))))))) [(K.d, _), (K.m, _)] ?_
     refine dq rfl (V_move rfl) ?_
     refine dq rfl vnil ?_
     refine dq rfl (vfa0 0 1) ?_
     refine dq rfl vld ?_
     refine dq rfl (V_move rfl) ?_
     refine dq rfl (V_move rfl) ?_
     refine dq rfl vnil ?_
     refine dq rfl (vfa0 1 1) ?_
     refine dq rfl vld ?_
     refine dq rfl (V_move rfl) ?_
     refine dq rfl (vlk1 115 (AG [(64, iv .u8 (List.replicate 64 0))]) (mget_some hq1)) ?_
     refine dq rfl (viSecZ 64) ?_
     refine WD.l ?_
     refine dstSec 64 hcs rfl ?_
     refine WD.done ?_
     refine WQ.block_normal ?_
     refine WQ.then ?_
     refine W.region ?_
     first | refine ov vaddN ?_ | refine ov vadd ?_
     refine omv ?_
     refine WL.nil ?_
     rw [hst, crash_yes g2b]
     exact ag (i + 1) [9, 0, 1, 7, 8] (sc) (by (try dsimp only); omega) rfl cov
   · refine W.skip ?_
     refine WQ.block_normal ?_
     refine WQ.then ?_
     refine W.region ?_
     first | refine ov vaddN ?_ | refine ov vadd ?_
     refine omv ?_
     refine WL.nil ?_
     have g2b : bitB kept i = false := decide_eq_false (by assumption)
     rw [crash_no g2b]
     exact ag (i + 1) [9, 0, 1, 7, 8] (sc) (by (try dsimp only); omega) rfl cov
 · refine W.exit ?_
   refine WQ.then_exit ?_
   refine WQ.then_exit ?_
   refine WQ.block_hit ?_
   refine WQ.then ?_
   refine sr ?_
   refine omv ?_
   refine ov vnil ?_
   refine ov (vfa0 1 1) ?_
   refine ov vld ?_
   refine oclr ?_
   refine nq ?_
   refine W.region ?_
   refine omv ?_
   refine omv ?_
   refine ov vnil ?_
   refine ov (vfa0 3 1) ?_
   refine ost ?_
   refine ov vnil ?_
   refine ov (vfa0 2 1) ?_
   refine ost ?_
   refine WL.nil ?_
   refine WQ.ret0 (.inr rfl) Tryz.results14 ?_
   intro w' hp; obtain rfl : i = D.m.length := by omega
   exact ⟨rfl, hp.cov cov⟩

end Go.Proofs.YtmeckbjinmgbbaaGreat
/- Disks: the document's answer. -/
namespace Go.Proofs.YtmeckbjinmgbbaaGreat
open Go.X
structure RS where
  n : Nat
  sure : List (List Int)
  new : List (List Int)
  iss : List Bool
  fuse : Int
  dead : Bool
structure RK where
  d : Nat
  s : Nat
  x : Nat
  i : Nat
/-- The program's disk, and the document's, are the same. -/
structure Rl (D : DS) (R : RS) : Prop where
  n : R.n = D.n
  sure : R.sure = D.sure
  fuse : R.fuse = D.fuse
  dead : R.dead = D.dead
  nlen : R.new.length = D.n
  news : ∀ s ∈ R.new, Sec s
  ilen : R.iss.length = D.n
  is_ : ∀ i, i < D.n → R.iss.getD i false = (pget D.m i).isSome
  new_ : ∀ (i : Nat) s, pget D.m i = some s → R.new.getD i [] = s
theorem getD_set {α : Type} {l : List α} {i j : Nat} {x d : α} (hi : i < l.length) : (l.set i x).getD j d = if i = j then x else l.getD j d := by
  rw [List.getD_eq_getElem?_getD, List.getD_eq_getElem?_getD, List.getElem?_set]
  by_cases h : i = j
  · subst h; simp [hi]
  · simp [h]
theorem Rl.cur {D : DS} {R : RS} (h : Rl D R) {i : Nat} (hi : i < D.n) : (if R.iss.getD i false = true then R.new.getD i [] else R.sure.getD i []) = cur D i := by
  rw [h.is_ i hi, h.sure]
  unfold Go.Proofs.YtmeckbjinmgbbaaGreat.cur
  cases hq : pget D.m i with
  | none => rfl
  | some s => rw [if_pos (show (some s).isSome = true from rfl), h.new_ i s hq]; rfl
end Go.Proofs.YtmeckbjinmgbbaaGreat
/- Disks: the document's answer, its methods. -/
namespace Go.Proofs.YtmeckbjinmgbbaaGreat
open Go.X
end Go.Proofs.YtmeckbjinmgbbaaGreat
/- Disks: the document's answer: Sync, Pending, Crash. -/
namespace Go.Proofs.YtmeckbjinmgbbaaGreat
open Go.X
/-- Of what was gone through so far. -/
structure SyI (D : DS) (R : RS) (i : Nat) (su : List (List Int)) (bs : List Bool) : Prop where
  len : su.length = D.n
  secs : ∀ s ∈ su, Sec s
  get : ∀ j, j < D.n → su.getD j [] = if j < i then cur D j else D.sure.getD j []
  blen : bs.length = D.n
  bget : ∀ j, j < D.n → bs.getD j false = if j < i then false else R.iss.getD j false
theorem SyI.start {D : DS} {R : RS} (hok : DOK D) (h : Rl D R) : SyI D R 0 R.sure R.iss :=
  ⟨by rw [h.sure]; exact hok.len, by rw [h.sure]; exact hok.secs, fun j _ => by rw [h.sure]; rfl, h.ilen, fun j _ => rfl⟩
theorem SyI.yes {D : DS} {R : RS} (hok : DOK D) (h : Rl D R) {i : Nat} {su : List (List Int)} {bs : List Bool} (hi : i < D.n) (hs : SyI D R i su bs) (hb : R.iss.getD i false = true) : SyI D R (i + 1) (su.set i (R.new.getD i [])) (bs.set i false) := by
  have hc := h.cur hi
  rw [if_pos hb] at hc
  obtain ⟨h1, h2, h3, h4, h5⟩ := hs
  refine ⟨by simp [h1], fun s hs => ?_, fun j hj => ?_, by simp [h4], fun j hj => ?_⟩
  · rcases List.mem_or_eq_of_mem_set hs with h | rfl
    · exact h2 s h
    · rw [hc]; exact hok.cur hi
  · rw [getD_set (by omega), h3 j hj, hc]
    by_cases e : i = j
    · subst e; rw [if_pos rfl, if_pos (by omega)]
    · rw [if_neg e]; by_cases e2 : j < i
      · rw [if_pos e2, if_pos (by omega)]
      · rw [if_neg e2, if_neg (by omega)]
  · rw [getD_set (by omega), h5 j hj]
    by_cases e : i = j
    · subst e; rw [if_pos rfl, if_pos (by omega)]
    · rw [if_neg e]; by_cases e2 : j < i
      · rw [if_pos e2, if_pos (by omega)]
      · rw [if_neg e2, if_neg (by omega)]
theorem SyI.no {D : DS} {R : RS} (h : Rl D R) {i : Nat} {su : List (List Int)} {bs : List Bool} (hi : i < D.n) (hs : SyI D R i su bs) (hb : R.iss.getD i false = false) : SyI D R (i + 1) su (bs.set i false) := by
  have hc := h.cur hi
  rw [hb] at hc
  rw [if_neg (by simp), h.sure] at hc
  obtain ⟨h1, h2, h3, h4, h5⟩ := hs
  refine ⟨h1, h2, fun j hj => ?_, by simp [h4], fun j hj => ?_⟩
  · rw [h3 j hj]
    by_cases e : i = j
    · subst e; rw [if_neg (by omega), if_pos (by omega), hc]
    · by_cases e2 : j < i
      · rw [if_pos e2, if_pos (by omega)]
      · rw [if_neg e2, if_neg (by omega)]
  · rw [getD_set (by omega), h5 j hj]
    by_cases e : i = j
    · subst e; rw [if_pos rfl, if_pos (by omega)]
    · rw [if_neg e]; by_cases e2 : j < i
      · rw [if_pos e2, if_pos (by omega)]
      · rw [if_neg e2, if_neg (by omega)]
theorem SyI.done {D : DS} {R : RS} (h : Rl D R) {su : List (List Int)} {bs : List Bool} (hs : SyI D R D.n su bs) : Rl (flush D) { R with sure := su, iss := bs } := by
  obtain ⟨h1, h2, h3, h4, h5⟩ := hs
  refine ⟨h.n, ?_, h.fuse, h.dead, h.nlen, h.news, h4, fun i hi => ?_, fun i s hx => by cases hx⟩
  · apply List.ext_getElem
    · simp [flush, merged, h1]
    · intro i hi1 hi2
      have hi : i < D.n := by rw [← h1]; exact hi1
      have e1 : su.getD i [] = su[i] := by rw [List.getD_eq_getElem?_getD, List.getElem?_eq_getElem hi1]; rfl
      have hi3 : i < (merged D).length := hi2
      have e2 : (merged D).getD i [] = (merged D)[i]'hi3 := by rw [List.getD_eq_getElem?_getD, List.getElem?_eq_getElem hi3]; rfl
      show su[i] = (merged D)[i]'hi3
      rw [← e1, ← e2, h3 i hi, if_pos hi, merged_get hi]
  · show bs.getD i false = _
    rw [h5 i hi, if_pos (show i < D.n from hi)]; rfl
end Go.Proofs.YtmeckbjinmgbbaaGreat
/- Disks: the document's answer: Crash. -/
namespace Go.Proofs.YtmeckbjinmgbbaaGreat
open Go.X
structure CrI (D : DS) (R : RS) (i : Nat) (bs : List Bool) : Prop where
  blen : bs.length = D.n
  bget : ∀ j : Nat, j < D.n → bs.getD j false = (R.iss.getD j false && decide ((j : Int) ∉ (pend D).take i))
theorem CrI.start {D : DS} {R : RS} (h : Rl D R) : CrI D R 0 R.iss := ⟨h.ilen, fun j _ => by simp⟩
theorem CrI.next {D : DS} {R : RS} {i : Nat} {bs : List Bool} (hok : DOK D) (hi : i < D.m.length) (h : CrI D R i bs) : CrI D R (i + 1) (bs.set ((pend D).getD i 0).toNat false) := by
  obtain ⟨h1, h2⟩ := h
  obtain ⟨s, _, hb, _, _⟩ := pend_mem hok hi
  have hil : i < (pend D).length := by rw [pend_len]; exact hi
  have hg : (pend D).getD i 0 = (pend D)[i] := by rw [List.getD_eq_getElem?_getD, List.getElem?_eq_getElem hil]; rfl
  refine ⟨by simp [h1], fun j hj => ?_⟩
  have hmem : ((j : Int) ∈ (pend D).take (i + 1)) = ((j : Int) ∈ (pend D).take i ∨ (j : Int) = (pend D)[i]) := by
    rw [List.take_add_one, List.getElem?_eq_getElem hil]
    simp only [List.mem_append, Option.toList_some, List.mem_singleton]
  rw [getD_set (by omega), h2 j hj]
  simp only [hmem]
  by_cases e : ((pend D).getD i 0).toNat = j
  · rw [if_pos e]
    have : (j : Int) = (pend D)[i] := by rw [← hg]; omega
    simp [this]
  · rw [if_neg e]
    have : ¬ (j : Int) = (pend D)[i] := by rw [← hg]; omega
    simp [this]
theorem CrI.done {D : DS} {R : RS} {bs : List Bool} {kept : Int} (hok : DOK D) (hr : Rl D R) (h : CrI D R D.m.length bs) : Rl (crD D kept) { R with sure := crashN D kept D.m.length, iss := bs, fuse := -1, dead := false } := by
  obtain ⟨h1, h2⟩ := h
  refine ⟨hr.n, rfl, rfl, rfl, hr.nlen, hr.news, h1, fun i hi => ?_, fun i s hx => by cases hx⟩
  show bs.getD i false = false
  have hi' : i < D.n := hi
  rw [h2 i hi', hr.is_ i hi']
  cases hq : pget D.m i with
  | none => rfl
  | some s =>
    obtain ⟨n, hn⟩ := pget_mem hq
    have hm : (i : Int) ∈ pend D := pend_perm.symm.subset (List.mem_map.2 ⟨_, hn, rfl⟩)
    rw [← pend_len, List.take_length]
    simp [hm]

end Go.Proofs.YtmeckbjinmgbbaaGreat
/- Disks: crashes, and disks that live. -/
namespace Go.Proofs.YtmeckbjinmgbbaaGreat
open Go.X
theorem crash_get {D : DS} {kept : Int} (hok : DOK D) {i : Nat} : ∀ {k : Nat}, k ≤ D.m.length →
    (crashN D kept k).getD i [] = if ∃ t, t < k ∧ (pend D).getD t 0 = (i : Int) ∧ bitB kept t = true then cur D i else D.sure.getD i []
  | 0, _ => by rw [if_neg (by rintro ⟨t, h, _⟩; omega)]; rfl
  | k + 1, hk => by
    have ih := crash_get hok (i := i) (k := k) (kept := kept) (by omega)
    obtain ⟨s, h1, h2, h3, h4⟩ := pend_mem hok (i := k) (by omega)
    have hl := crashN_len (D := D) (kept := kept) (i := k)
    have hlen := hok.len
    unfold crashN
    by_cases hb : bitB kept k = true
    · rw [if_pos hb, getD_set (by omega)]
      by_cases e : ((pend D).getD k 0).toNat = i
      · rw [if_pos e, if_pos ⟨k, by omega, by omega, hb⟩, e]
      · rw [if_neg e, ih]
        have : (∃ t, t < k + 1 ∧ (pend D).getD t 0 = (i : Int) ∧ bitB kept t = true) ↔ ∃ t, t < k ∧ (pend D).getD t 0 = (i : Int) ∧ bitB kept t = true := by
          constructor
          · rintro ⟨t, ht, h5, h6⟩
            refine ⟨t, ?_, h5, h6⟩
            rcases Nat.lt_succ_iff_lt_or_eq.1 ht with h | rfl
            · exact h
            · omega
          · rintro ⟨t, ht, h5, h6⟩; exact ⟨t, by omega, h5, h6⟩
        simp only [this]
    · rw [if_neg hb, ih]
      have : (∃ t, t < k + 1 ∧ (pend D).getD t 0 = (i : Int) ∧ bitB kept t = true) ↔ ∃ t, t < k ∧ (pend D).getD t 0 = (i : Int) ∧ bitB kept t = true := by
        constructor
        · rintro ⟨t, ht, h5, h6⟩
          refine ⟨t, ?_, h5, h6⟩
          rcases Nat.lt_succ_iff_lt_or_eq.1 ht with h | rfl
          · exact h
          · exact absurd h6 hb
        · rintro ⟨t, ht, h5, h6⟩; exact ⟨t, by omega, h5, h6⟩
      simp only [this]
theorem crD_cur {D : DS} {kept : Int} {i : Nat} : cur (crD D kept) i = (crashN D kept D.m.length).getD i [] := rfl
theorem crash_one {D : DS} {kept : Int} (hok : DOK D) {i : Nat} : cur (crD D kept) i = cur D i ∨ cur (crD D kept) i = D.sure.getD i [] := by
  rw [crD_cur, crash_get hok (Nat.le_refl _)]
  split
  · exact .inl rfl
  · exact .inr rfl
/-- The power is on, and no fuse burns. -/
def Live (D : DS) : Prop := D.fuse = -1 ∧ D.dead = false
theorem Live.burn {D : DS} (h : Live D) : burnE D = 0 ∧ burnD D = D := by
  obtain ⟨h1, h2⟩ := h
  obtain ⟨e1, e2⟩ := burn_f h2 (by omega)
  refine ⟨e1, ?_⟩
  rw [e2, h1, show max ((-1 : Int) - 1) (-1) = -1 by decide]
  obtain ⟨n, su, m, ck, fu, de⟩ := D
  simp only at h1
  subst h1; rfl
theorem Live.wr {D : DS} (h : Live D) {i : Int} {s : List Int} : wrD D i s = if inR D i then putD D i s else D := by
  unfold wrD; rw [h.burn.1, h.burn.2]; rfl
theorem Live.wrE {D : DS} (h : Live D) {i : Int} : wrE D i = if inR D i then 0 else 1 := by
  unfold Go.Proofs.YtmeckbjinmgbbaaGreat.wrE; rw [h.burn.1]
theorem Live.sy {D : DS} (h : Live D) : syD D = flush D := by rw [sy_ok h.burn.1, h.burn.2]
theorem Live.cr {D : DS} {kept : Int} : Live (crD D kept) := ⟨rfl, rfl⟩
theorem newD_live {n : Nat} : Live (newD n) := ⟨rfl, rfl⟩
theorem putD_cur {D : DS} {i : Int} {s : List Int} {j : Nat} : cur (putD D i s) j = if i = (j : Int) then s else cur D j := by
  unfold cur
  rw [show (putD D i s).m = pput D.m D.ck i s from rfl, show (putD D i s).sure = D.sure from rfl, pget_put]
  split <;> rfl
theorem flush_cur {D : DS} {j : Nat} (hj : j < D.n) : cur (flush D) j = cur D j := merged_get hj
theorem rdS_sec {D : DS} (h : DOK D) {i : Int} : Sec (rdS D i) := by
  unfold rdS; split
  · rename_i hi; have := inR_bd hi; exact h.cur (by omega)
  · exact sec0
theorem rd_in {D : DS} {i : Nat} (h : i < D.n) : rdE D (i : Int) = 0 ∧ rdS D (i : Int) = cur D i := by
  have hr : inR D (i : Int) = true := by simp only [inR, Bool.and_eq_true, decide_eq_true_eq]; omega
  exact ⟨if_pos hr, by unfold rdS; rw [if_pos hr]; rfl⟩

end Go.Proofs.YtmeckbjinmgbbaaGreat