/- What the functions of package octets come to, and those of its document's answer: numbers out of bytes. -/
import Derived.Test.YtmeckbjinmgbbaaGreatRows
import Derived.Test.YtmeckbjinmgbbaaGreatXA
set_option linter.unusedVariables false
set_option linter.unusedSimpArgs false

namespace Go.Proofs.YtmeckbjinmgbbaaGreat
open Go.X
/-- A number out of bytes, the highest first. -/
def numH (l : List Int) : Int := l.foldl (fun n c => n * 256 + c) 0
def bytes (l : List Int) : Prop := ∀ c ∈ l, 0 ≤ c ∧ c ≤ 255
theorem numH_snoc (l : List Int) (c : Int) : numH (l ++ [c]) = numH l * 256 + c := by simp [numH]
theorem bytes.get {l : List Int} (h : bytes l) (i : Nat) : 0 ≤ l.getD i 0 ∧ l.getD i 0 ≤ 255 := by
  rw [List.getD_eq_getElem?_getD]
  cases hg : l[i]? with
  | none => simp
  | some c => exact h c (List.mem_of_getElem? hg)
theorem bytes.rev {l : List Int} (h : bytes l) : bytes l.reverse := fun c hc => h c (List.mem_reverse.1 hc)
theorem bytes.take {l : List Int} (h : bytes l) (n : Nat) : bytes (l.take n) := fun c hc => h c (List.take_subset _ _ hc)
theorem bytes.drop {l : List Int} (h : bytes l) (n : Nat) : bytes (l.drop n) := fun c hc => h c (List.drop_subset _ _ hc)
theorem bytes.app {l m : List Int} (h : bytes l) (h2 : bytes m) : bytes (l ++ m) := fun c hc => (List.mem_append.1 hc).elim (h c) (h2 c)
theorem take_snoc {l : List Int} {i : Nat} (h : i < l.length) : l.take (i + 1) = l.take i ++ [l.getD i 0] := by
  rw [List.take_succ_eq_append_getElem h]; simp [List.getElem?_eq_getElem h]
theorem numH_bd : ∀ {l : List Int}, bytes l → ∀ i, i ≤ l.length → i ≤ 7 → 0 ≤ numH (l.take i) ∧ numH (l.take i) ≤ 72057594037927935 ∧ (i ≤ 6 → numH (l.take i) ≤ 281474976710655) ∧ (i ≤ 5 → numH (l.take i) ≤ 1099511627775) ∧ (i ≤ 4 → numH (l.take i) ≤ 4294967295) ∧ (i ≤ 3 → numH (l.take i) ≤ 16777215) ∧ (i ≤ 2 → numH (l.take i) ≤ 65535) ∧ (i ≤ 1 → numH (l.take i) ≤ 255) ∧ (i ≤ 0 → numH (l.take i) = 0)
  | l, _, 0, _, _ => by simp [numH]
  | l, h, i + 1, hi, h7 => by
    have ih := numH_bd h i (by omega) (by omega)
    have hc := h.get i
    rw [take_snoc (by omega), numH_snoc]
    omega
theorem rev_step {l : List Int} {i n : Nat} (h : i < n) (hl : l.length = n) : List.replicate (n - (i + 1)) 0 ++ (l.take (i + 1)).reverse = (List.replicate (n - i) 0 ++ (l.take i).reverse).set (n - 1 - i) (l.getD i 0) := by
  rw [take_snoc (by omega), List.reverse_append, List.reverse_singleton]
  rw [show n - i = (n - (i + 1)) + 1 by omega, List.replicate_succ', List.append_assoc, List.set_append_right _ _ (by simp; omega)]
  rw [show n - 1 - i - (List.replicate (n - (i + 1)) (0 : Int)).length = 0 by simp; omega]
  rfl
theorem rev_get {l : List Int} {i n : Nat} (hl : l.length = n) (h : i < min n 8) : l.getD (min n 8 - 1 - i) 0 = (l.take 8).reverse.getD i 0 := by
  rw [List.getD_eq_getElem?_getD, List.getD_eq_getElem?_getD, List.getElem?_reverse (by simp; omega), List.getElem?_take, if_pos (by simp; omega)]
  simp [hl, Nat.min_comm]
theorem take_min {l : List Int} {n k : Nat} (hl : l.length = n) : l.take (min n k) = l.take k := by
  by_cases h : n ≤ k
  · rw [Nat.min_eq_left h, List.take_of_length_le (by omega), List.take_of_length_le (by omega)]
  · rw [Nat.min_eq_right (by omega)]
theorem or8 {n c : Int} (h0 : 0 ≤ n) (h1 : n ≤ 72057594037927935) (c0 : 0 ≤ c) (c1 : c ≤ 255) : orI .u64 (shlI .u64 n 8) c = n * 256 + c := by
  obtain ⟨n, rfl⟩ := Int.eq_ofNat_of_zero_le h0
  obtain ⟨c, rfl⟩ := Int.eq_ofNat_of_zero_le c0
  have hs : shlI .u64 (n : Int) 8 = ((n <<< 8 : Nat) : Int) := by
    unfold shlI
    rw [show min (Int.toNat 8) IntKind.u64.bits = 8 from rfl, Nat.shiftLeft_eq]
    rw [show ((n : Int) * 2 ^ 8) = ((n * 2 ^ 8 : Nat) : Int) by rw [Int.natCast_mul]; rfl]
    rw [Go.IntWalk.u64_in _ (by omega)]
  unfold orI
  rw [hs]
  have hb : IntKind.u64.bits = 64 := rfl
  have e1 : (BitVec.ofInt IntKind.u64.bits ((n <<< 8 : Nat) : Int) ||| BitVec.ofInt IntKind.u64.bits (c : Int)).toNat = (n <<< 8) ||| c := by
    rw [BitVec.toNat_or, BitVec.ofInt_natCast, BitVec.ofInt_natCast, BitVec.toNat_ofNat, BitVec.toNat_ofNat, hb, Nat.mod_eq_of_lt (by rw [Nat.shiftLeft_eq]; omega), Nat.mod_eq_of_lt (by omega)]
  rw [e1, ← Nat.shiftLeft_add_eq_or_of_lt (by omega : c < 2 ^ 8), Nat.shiftLeft_eq, Go.IntWalk.u64_in _ (by omega)]
  rw [show (2 : Nat) ^ 8 = 256 from rfl]; omega

theorem turned_calls (A : Option Addr) (n cap : Nat) (l : List Int) (w : World) (hs : SrW w 1 A n (iv .u8 l)) (hn : n ≤ 1000000) :
    Calls Tryz.prog 97 [.slice A n cap].toArray w fun e w' => ∃ r : Nat, True ∧ e = .returned (.slice (some ⟨r, 0, none⟩) n n) ∧ HP w w' [] [(r, .cells [(n, iv .u8 l.reverse), (n - n, [])] 5)] := by
  have hl : l.length = n := by have := hs.1; rw [iv_len] at this; omega
  refine calls_of_W Tryz.func97 rfl Tryz.ntmps97 rfl rfl (HP.refl w []) ?_
  refine W.seq ?_
  refine W.region ?_
  refine WL.as rfl rfl ?_
  refine WL.nil ?_
  refine WQ.then ?_
  refine W.seq ?_
  refine W.region ?_
  refine WL.mv rfl rfl ?_
  refine WL.val rfl (V_lenS (by kernel_rfl) rfl) ?_
  refine WL.make (n := n) 5 1 (.int .u8 0) rfl (by kernel_rfl) ⟨by kernel_rfl, by repeat (first | exact Fit.nil | refine Fit.mk (by first | rfl | (simp; done) | (simp [iv_len]; done) | simp [iv_len, *]) ?_)⟩ rfl rfl (by first | rfl | omega) (by first | rfl | omega) (by omega) (by omega) ?_; intro b8
  refine WL.as rfl rfl ?_
  refine WL.nil ?_
  refine WQ.then ?_
  refine W.seq ?_
  refine W.seq ?_
  refine W.region ?_
  refine WL.mv rfl rfl ?_
  refine WL.val rfl (V_lenS (by kernel_rfl) rfl) ?_
  refine WL.mv rfl rfl ?_
  refine WL.nil ?_
  refine WQ.then ?_
  refine W.block ?_
  -- LOOP
  rw [iv_rep]
  refine W.pick [0, 3, 9, 10, 11] rfl ?_
  refine W.loop (σ := Nat) (fun i => i ≤ n) (fun i => [(0, .slice A n cap), (3, .slice (some ⟨b8, 0, none⟩) n n), (9, .slice A n cap), (10, .int .i64 n), (11, .int .i64 i)]) (fun i => [(b8, .cells [(n, iv .u8 (List.replicate (n - i) 0 ++ (l.take i).reverse)), (n - n, [])] 5)]) (fun i => n - i) 0 rfl (by simp) (Nat.zero_le _) ?_
  rintro i hi
  refine W.seq ?_
  refine W.region ?_
  refine WL.val rfl (V_lss rfl rfl) ?_
  refine WL.nil ?_
  refine WQ.then ?_
  refine W.seq ?_
  refine W.cond_dec rfl (fun g1 => ?_) (fun g1 => ?_)
  ·
    refine W.skip ?_
    refine WQ.then ?_
    refine W.seq ?_
    refine W.block ?_
    refine W.seq ?_
    refine W.region ?_
    refine WL.mv rfl rfl ?_
    obtain ⟨bb, oo, rfl⟩ := hs.has (by rw [iv_len]; omega)
    refine WL.val rfl (V_indexAddrS 1 (by kernel_rfl) rfl rfl (by omega) (by omega)) ?_
    refine WL.val rfl (V_loadSrI i hs.old0 (by kernel_rfl) rfl (by simp) (by omega)) ?_
    refine WL.as rfl rfl ?_
    refine WL.as rfl rfl ?_
    refine WL.nil ?_
    refine WQ.then ?_
    refine W.region ?_
    refine WL.mv rfl rfl ?_
    refine WL.mv rfl rfl ?_
    refine WL.val rfl (V_lenS (by kernel_rfl) rfl) ?_
    first | refine WL.val rfl (V_subN rfl rfl (by omega)) ?_ | refine WL.val rfl (V_sub rfl rfl) ?_
    refine WL.mv rfl rfl ?_
    first | refine WL.val rfl (V_subN rfl rfl (by omega)) ?_ | refine WL.val rfl (V_sub rfl rfl) ?_
    refine WL.mv rfl rfl ?_
    refine WL.val rfl (V_indexAddrS 1 (by kernel_rfl) rfl rfl (by omega) (by omega)) ?_
    refine WL.storeIv (n - 1 - i) (by kernel_rfl) rfl rfl (by repeat (first | exact Upd.here _ _ | apply Upd.there)) (by first | (simp; done) | (simp; omega)) (by first | (simp; done) | (simp; omega)) ?_
    refine WL.nil ?_
    refine WQ.block_normal ?_
    refine WQ.then ?_
    refine W.region ?_
    first | refine WL.val rfl (V_addN rfl rfl (by omega)) ?_ | refine WL.val rfl (V_add rfl rfl) ?_
    refine WL.mv rfl rfl ?_
    refine WL.nil ?_
    exact WQ.again (i + 1) [0, 3, 9, 10, 11] (by show i + 1 ≤ n; omega) (by show n - (i + 1) < n - i; omega) rfl (by rw [rev_step (by omega) hl]; exact List.Sublist.refl _)
  ·
    refine W.exit ?_
    refine WQ.then_exit ?_
    refine WQ.then_exit ?_
    refine WQ.block_hit ?_
    refine WQ.then ?_
    refine W.seq ?_
    refine W.region ?_
    refine WL.mv rfl rfl ?_
    refine WL.as rfl rfl ?_
    refine WL.nil ?_
    refine WQ.then ?_
    refine W.ret ?_
    refine WQ.ret1 Tryz.results97 (.tmp rfl) ?_
    intro w' hp; refine ⟨b8, trivial, rfl, ?_⟩; have hin : i = n := by omega
    subst hin; rw [Nat.sub_self, List.take_of_length_le (by omega)] at hp; simpa using hp

theorem ofHigh_calls (A : Option Addr) (n cap : Nat) (l : List Int) (w : World) (hs : SrW w 1 A n (iv .u8 l)) (hb : bytes l) (hn : n ≤ cap) (hn2 : n ≤ 4000000) :
    Calls Tryz.prog 103 [.slice A n cap].toArray w fun e w' => e = .returned (.int .u64 (numH (l.take 8))) ∧ HP w w' [] [] := by
  have hl : l.length = n := by have := hs.1; rw [iv_len] at this; omega
  refine calls_of_W Tryz.func103 rfl Tryz.ntmps103 rfl rfl (HP.refl w []) ?_
  refine W.seq ?_
  refine W.region ?_
  refine WL.as rfl rfl ?_
  refine WL.nil ?_
  refine WQ.then ?_
  refine W.seq ?_
  refine W.region ?_
  refine WL.as rfl rfl ?_
  refine WL.nil ?_
  refine WQ.then ?_
  refine W.seq ?_
  refine W.seq ?_
  refine W.region ?_
  refine WL.mv rfl rfl ?_
  refine WL.mv rfl rfl ?_
  refine WL.val rfl (V_lenS (by kernel_rfl) rfl) ?_
  refine WL.val rfl (V_min rfl) ?_
  refine WL.val rfl (V_slice0 (s := 1) (h := min n 8) (by kernel_rfl) rfl (.yes rfl (by first | rfl | omega)) (by omega)) ?_
  refine WL.val rfl (V_lenS (by kernel_rfl) rfl) ?_
  refine WL.mv rfl rfl ?_
  refine WL.nil ?_
  refine WQ.then ?_
  refine W.block ?_
  -- LOOP
  refine W.pick [3, 10, 11, 12] rfl ?_
  refine W.loop (σ := Nat) (fun i => i ≤ min n 8) (fun i => [(3, .int .u64 (numH (l.take i))), (10, .slice A (min n 8) cap), (11, .int .i64 (min n 8 : Nat)), (12, .int .i64 i)]) (fun i => []) (fun i => n - i) 0 rfl rfl (Nat.zero_le _) ?_
  rintro i hi
  refine W.seq ?_
  refine W.region ?_
  refine WL.val rfl (V_lss rfl rfl) ?_
  refine WL.nil ?_
  refine WQ.then ?_
  refine W.seq ?_
  refine W.cond_dec rfl (fun g1 => ?_) (fun g1 => ?_)
  ·
    refine W.skip ?_
    refine WQ.then ?_
    refine W.seq ?_
    refine W.block ?_
    refine W.seq ?_
    refine W.region ?_
    obtain ⟨bb, oo, rfl⟩ := hs.has (by rw [iv_len]; omega); have hc := hb.get i; have hd := numH_bd hb i (by omega) (by omega)
    refine WL.val rfl (V_indexAddrS 1 (by kernel_rfl) rfl rfl (by omega) (by omega)) ?_
    refine WL.val rfl (V_loadSrI i hs.old0 (by kernel_rfl) rfl (by simp) (by omega)) ?_
    refine WL.as rfl rfl ?_
    refine WL.nil ?_
    refine WQ.then ?_
    refine W.region ?_
    refine WL.mv rfl rfl ?_
    refine WL.val rfl (V_shl rfl rfl (by omega)) ?_
    refine WL.mv rfl rfl ?_
    refine WL.val rfl (V_convN (k' := .u64) rfl (by kernel_rfl) (by kernel_rfl) (Go.IntWalk.u64_in _ (by omega))) ?_
    refine WL.val rfl (V_or rfl rfl) ?_
    rw [or8 (by omega) (by omega) (by omega) (by omega), ← numH_snoc, ← take_snoc (by omega)]
    refine WL.as rfl rfl ?_
    refine WL.nil ?_
    refine WQ.block_normal ?_
    refine WQ.then ?_
    refine W.region ?_
    first | refine WL.val rfl (V_addN rfl rfl (by omega)) ?_ | refine WL.val rfl (V_add rfl rfl) ?_
    refine WL.mv rfl rfl ?_
    refine WL.nil ?_
    exact WQ.again (i + 1) [3, 10, 11, 12] (by show i + 1 ≤ min n 8; omega) (by show n - (i + 1) < n - i; omega) rfl (by repeat (first | exact List.Sublist.refl _ | exact List.nil_sublist _ | refine List.Sublist.cons_cons _ ?_ | refine List.Sublist.cons _ ?_))
  ·
    refine W.exit ?_
    refine WQ.then_exit ?_
    refine WQ.then_exit ?_
    refine WQ.block_hit ?_
    refine WQ.then ?_
    refine W.seq ?_
    refine W.region ?_
    refine WL.mv rfl rfl ?_
    refine WL.as rfl rfl ?_
    refine WL.nil ?_
    refine WQ.then ?_
    refine W.ret ?_
    refine WQ.ret1 Tryz.results103 (.tmp rfl) ?_
    intro w' hp; have hin : l.take i = l.take 8 := by
      by_cases h8 : n ≤ 8
      · rw [List.take_of_length_le (by omega), List.take_of_length_le (by omega)]
      · rw [show i = 8 by omega]
    rw [hin]; exact ⟨rfl, hp.forget⟩

theorem ofLow_calls (A : Option Addr) (n cap : Nat) (l : List Int) (w : World) (hs : SrW w 1 A n (iv .u8 l)) (hb : bytes l) (hn : n ≤ cap) (hn2 : n ≤ 4000000) :
    Calls Tryz.prog 140 [.slice A n cap].toArray w fun e w' => e = .returned (.int .u64 (numH (l.take 8).reverse)) ∧ HP w w' [] [] := by
  have hl : l.length = n := by have := hs.1; rw [iv_len] at this; omega
  refine calls_of_W Tryz.func140 rfl Tryz.ntmps140 rfl rfl (HP.refl w []) ?_
  refine W.seq ?_
  refine W.region ?_
  refine WL.as rfl rfl ?_
  refine WL.nil ?_
  refine WQ.then ?_
  refine W.seq ?_
  refine W.region ?_
  refine WL.mv rfl rfl ?_
  refine WL.mv rfl rfl ?_
  refine WL.val rfl (V_lenS (by kernel_rfl) rfl) ?_
  refine WL.val rfl (V_min rfl) ?_
  refine WL.val rfl (V_slice0 (s := 1) (h := min n 8) (by kernel_rfl) rfl (.yes rfl (by first | rfl | omega)) (by omega)) ?_
  have hs8 := hs.take (m := min n 8) (by omega); rw [Nat.mul_one, iv_take, take_min hl] at hs8
  refine WL.call [] (fun r => .slice (some ⟨r, 0, none⟩) (min n 8) (min n 8)) (fun r => [(r, .cells [(min n 8, iv .u8 (l.take 8).reverse), (min n 8 - min n 8, [])] 5)]) (fun _ => True) rfl (by kernel_rfl) rfl (.nil _) (fun w hp => turned_calls _ _ _ (l.take 8) w (hs8.old0 w hp) (by omega)) ?_; intro b8 _
  refine WL.pure _ rfl (by kernel_rfl) rfl (fun w hp => ofHigh_calls _ _ _ (l.take 8).reverse w (Sr.own (by repeat (first | exact At.head | exact At.headR | apply At.tail)) (by first | exact iv_one | simp [one]) w hp) ((hb.take 8).rev) (by omega) (by omega)) ?_
  refine WL.as rfl rfl ?_
  refine WL.nil ?_
  refine WQ.then ?_
  refine W.ret ?_
  refine WQ.ret1 Tryz.results140 (.tmp rfl) ?_
  intro w' hp; rw [show (l.take 8).reverse.take 8 = (l.take 8).reverse from List.take_of_length_le (by simp; omega)]; exact ⟨rfl, hp.forget⟩

theorem rofLow_calls (A : Option Addr) (n cap : Nat) (l : List Int) (w : World) (hs : SrW w 1 A n (iv .u8 l)) (hb : bytes l) (hn2 : n ≤ 4000000) :
    Calls Tryz.prog 159 [.slice A n cap].toArray w fun e w' => e = .returned (.int .u64 (numH (l.take 8).reverse)) ∧ HP w w' [] [] := by
  have hl : l.length = n := by have := hs.1; rw [iv_len] at this; omega
  have hlr : (l.take 8).reverse.length = min n 8 := by simp; omega
  refine calls_of_W Tryz.func159 rfl Tryz.ntmps159 rfl rfl (HP.refl w []) ?_
  refine W.seq ?_
  refine W.region ?_
  refine WL.as rfl rfl ?_
  refine WL.nil ?_
  refine WQ.then ?_
  refine W.seq ?_
  refine W.region ?_
  refine WL.as rfl rfl ?_
  refine WL.nil ?_
  refine WQ.then ?_
  refine W.seq ?_
  refine W.seq ?_
  refine W.region ?_
  refine WL.mv rfl rfl ?_
  refine WL.val rfl (V_lenS (by kernel_rfl) rfl) ?_
  refine WL.val rfl (V_min rfl) ?_
  first | refine WL.val rfl (V_subN rfl rfl (by omega)) ?_ | refine WL.val rfl (V_sub rfl rfl) ?_
  refine WL.as rfl rfl ?_
  refine WL.nil ?_
  refine WQ.then ?_
  refine W.block ?_
  -- LOOP
  refine W.pick [0, 3, 4] rfl ?_
  rw [show min (n : Int) 8 - 1 = min (n : Int) 8 - 1 - ((0 : Nat) : Int) from by omega]
  refine W.loop (σ := Nat) (fun i => i ≤ min n 8) (fun i => [(0, .slice A n cap), (3, .int .u64 (numH ((l.take 8).reverse.take i))), (4, .int .i64 (min (n : Int) 8 - 1 - i))]) (fun i => []) (fun i => n - i) 0 rfl rfl (Nat.zero_le _) ?_
  rintro i hi
  refine W.seq ?_
  refine W.seq ?_
  refine W.region ?_
  refine WL.mv rfl rfl ?_
  refine WL.val rfl (V_geq rfl rfl) ?_
  refine WL.nil ?_
  refine WQ.then ?_
  refine W.cond_dec rfl (fun g1 => ?_) (fun g1 => ?_)
  ·
    refine W.skip ?_
    refine WQ.then ?_
    refine W.seq ?_
    refine W.block ?_
    refine W.region ?_
    obtain ⟨bb, oo, rfl⟩ := hs.has (by rw [iv_len]; omega); have hc := hb.get (min n 8 - 1 - i); have hd := numH_bd (hb.take 8).rev i (by omega) (by omega)
    refine WL.mv rfl rfl ?_
    refine WL.val rfl (V_mul rfl rfl) ?_
    refine WL.mv rfl rfl ?_
    refine WL.mv rfl rfl ?_
    refine WL.val rfl (V_indexAddrS 1 (by kernel_rfl) rfl rfl (by omega) (by omega)) ?_
    refine WL.val rfl (V_loadSrI (min n 8 - 1 - i) hs.old0 (by kernel_rfl) rfl (by first | (simp; done) | (simp; omega)) (by omega)) ?_
    refine WL.val rfl (V_convN (k' := .u64) rfl (by kernel_rfl) (by kernel_rfl) (Go.IntWalk.u64_in _ (by omega))) ?_
    refine WL.val rfl (V_add rfl rfl) ?_
    rw [show (l.getD (min n 8 - 1 - i) 0) = (l.take 8).reverse.getD i 0 from rev_get hl (by omega)] at hc ⊢; rw [Go.IntWalk.u64_in (_ * _) (by omega), Go.IntWalk.u64_in _ (by omega), ← numH_snoc, ← take_snoc (by omega)]
    refine WL.as rfl rfl ?_
    refine WL.nil ?_
    refine WQ.block_normal ?_
    refine WQ.then ?_
    refine W.region ?_
    refine WL.mv rfl rfl ?_
    first | refine WL.val rfl (V_subN rfl rfl (by omega)) ?_ | refine WL.val rfl (V_sub rfl rfl) ?_
    refine WL.as rfl rfl ?_
    refine WL.nil ?_
    rw [show min (n : Int) 8 - 1 - (i : Int) - 1 = min (n : Int) 8 - 1 - ((i + 1 : Nat) : Int) from by omega]
    exact WQ.again (i + 1) [0, 3, 4] (by show i + 1 ≤ min n 8; omega) (by show n - (i + 1) < n - i; omega) rfl (by repeat (first | exact List.Sublist.refl _ | exact List.nil_sublist _ | refine List.Sublist.cons_cons _ ?_ | refine List.Sublist.cons _ ?_))
  ·
    refine W.exit ?_
    refine WQ.then_exit ?_
    refine WQ.then_exit ?_
    refine WQ.block_hit ?_
    refine WQ.then ?_
    refine W.seq ?_
    refine W.region ?_
    refine WL.mv rfl rfl ?_
    refine WL.as rfl rfl ?_
    refine WL.nil ?_
    refine WQ.then ?_
    refine W.ret ?_
    refine WQ.ret1 Tryz.results159 (.tmp rfl) ?_
    intro w' hp; rw [show (l.take 8).reverse.take i = (l.take 8).reverse from List.take_of_length_le (by omega)]; exact ⟨rfl, hp.forget⟩

end Go.Proofs.YtmeckbjinmgbbaaGreat