/- The journal: a record's sector. -/
import Derived.Test.YtmeckbjinmgbbaaGreatMda
import Derived.Test.YtmeckbjinmgbbaaGreatXC
set_option linter.unusedVariables false
set_option linter.unusedSimpArgs false

namespace Go.Proofs.YtmeckbjinmgbbaaGreat
open Go.X
section
variable {c : Cx} {Q : Post} {S : Slots} {L Lr Lx L' : List (Nat × Blk)} {ops : Array Oper} {d : Option Tmp} {ty T T' : TypeId} {pos : String} {af : Array Edge} {x y : Operand} {i : Nat} {p : Plan}
/-- Bytes copied into an array, by a slice of it. -/
theorem dcpI {bd o n dcap m scap N : Nat} (a : Nat) {A : Option Addr} {b l : List Int} {t : TypeId} (ho : ops[i]? = some ⟨d, .call ⟨.builtin .copy, #[x, y], #[T, T']⟩, ty, pos, af, none⟩) (hs : Sr c L 1 A m (iv .u8 b))
    (k : WD c ops Q Lr p (putS d (.int .i64 (m : Nat)) S) L') (hm : a + m ≤ N) (hmn : m ≤ n) (hoa : o = a) (hl : l.length = N) (hd : inB c.n d = true := by exact rfl) (ht : slB c.P T 1 = true := by kernel_rfl) (hx : ev S x = some (.slice (some ⟨bd, o, none⟩) n dcap) := by exact rfl) (hy : ev S y = some (.slice A m scap) := by exact rfl)
    (hu : Upd bd (.cells [(N, iv .u8 (l.take a ++ b ++ l.drop (a + m)))] t) L (.cells [(N, iv .u8 l)] t) L' := by repeat (first | exact Upd.here _ _ | apply Upd.there))
    (hLr : Lr.Sublist L := by exact subl) (hLr' : ∀ p ∈ Lr, p ∈ L' := by simp) (hbl : b.length = m := by rfl) : WO c ops Q Lr i p S L := by
  subst hoa
  refine WO.eff ho hd hLr (E_copy ht hx hy hs hu (by simp [flat, iv_len]; omega) (fun _ => Fit.mk (by simp [iv_len]; omega) Fit.nil) ?_) fun v M ⟨hv, hM⟩ => ?_
  · rw [Nat.min_eq_left hmn]
    simp only [flat, List.flatMap_cons, List.flatMap_nil, List.append_nil]
    rw [List.take_of_length_le (l := iv .u8 b) (by rw [iv_len]; omega), iv_take, iv_drop]
    simp [iv]
  · subst hM; subst hv
    rw [Nat.min_eq_left hmn]
    exact ⟨hLr', k⟩
end
theorem GrOK.open {o : Gr} {n : Nat} (h : GrOK o n) (h0 : 0 < n) : ∃ b c r, o = some (b, c, r) ∧ n ≤ c := by
  cases o with
  | none => exact absurd h (by show ¬ n = 0; omega)
  | some q => obtain ⟨b, c, r⟩ := q; exact ⟨b, c, r, rfl, h⟩
def layF (a : Nat) (b l : List Int) : List Int := l.take a ++ b ++ l.drop (a + b.length)
theorem layF_len {a : Nat} {b l : List Int} (h : a + b.length ≤ l.length) : (layF a b l).length = l.length := by simp [layF]; omega

theorem lay22_calls (B1 B2 : Nat) (a : Nat) (l b l2 : List Int) (hl2 : layF a b l = l2) (A : Option Addr) (n cap : Nat) (hn : n ≤ cap) (ha : a < 64) (hl : l.length = 64) (hab : a + n ≤ 64) (w : World) (hp0 : HP w w [B1, B2] [(B1, .cells [(1, [.int .i64 (a : Int)])] 3), (B2, .cells [(64, iv .u8 l)] 115)]) (hs : ∀ w' M, HP w w' [B1, B2] M → SrW w' 1 A n (iv .u8 b)) :
    Calls Tryz.prog 128 [.slice A n cap, .pointer (some ⟨B1, 0, none⟩), .pointer (some ⟨B2, 0, none⟩)].toArray w fun e w' => e = .returned (.tuple #[]) ∧ HP w w' [B1, B2] [(B1, .cells [(1, [.int .i64 ((a + n : Nat) : Int)])] 3), (B2, .cells [(64, iv .u8 l2)] 115)] := by
 subst hl2
 have hbl := SrW.ilen (hs w _ hp0)
 subst hbl
 refine calls_of_W Tryz.func128 rfl Tryz.ntmps128 rfl rfl hp0 ?_
 apply W.join
 · intro hJ
   refine dr (.q 3 (.l2 0 (.l 1 (.q 2 (.l 4 (.q 5 (.l 6 (.done)))))) 1 (.q 2 (.l2 0 (.l 4 (.q 5 (.l 6 (.done)))) 4 (.l 0 (.q 5 (.l 6 (.done)))))))) [] ?_
   refine dq rfl (V_move rfl) ?_
   refine WD.l2 ?_ ?_
   · refine dv rfl vld ?_
     refine WD.l ?_
     refine dv rfl vld ?_
     refine dq rfl (V_slicePN (s := 1) (l := a) (len := 64) (h := 64) (64 - a) (64 - a) (by kernel_rfl) rfl (.yes rfl rfl) .no (by omega) (by omega) (by omega) (by omega)) ?_
     refine WD.l ?_
     refine dcpI (o := 0 + a * 1) (n := 64 - a) (N := 64) a rfl (fun w1 h1 => hs w1 _ h1) ?_ (by omega) (by omega) (by omega) hl
     first | refine dq rfl vaddN ?_ | refine dq rfl vadd ?_
     refine WD.l ?_
     refine dst rfl ?_
     refine WD.done ?_
     exact WQ.pick (S' := []) [] rfl hJ
   · refine dv rfl vld ?_
     refine dq rfl (V_slicePN (s := 1) (l := a) (len := 64) (h := 64) (64 - a) (64 - a) (by kernel_rfl) rfl (.yes rfl rfl) .no (by omega) (by omega) (by omega) (by omega)) ?_
     refine WD.l2 ?_ ?_
     · refine dv rfl vld ?_
       refine WD.l ?_
       refine dcpI (o := 0 + a * 1) (n := 64 - a) (N := 64) a rfl (fun w1 h1 => hs w1 _ h1) ?_ (by omega) (by omega) (by omega) hl
       first | refine dq rfl vaddN ?_ | refine dq rfl vadd ?_
       refine WD.l ?_
       refine dst rfl ?_
       refine WD.done ?_
       exact WQ.pick (S' := []) [] rfl hJ
     · refine dcpI (o := 0 + a * 1) (n := 64 - a) (N := 64) a rfl (fun w1 h1 => hs w1 _ h1) ?_ (by omega) (by omega) (by omega) hl
       refine WD.l ?_
       refine dv rfl vld ?_
       first | refine dq rfl vaddN ?_ | refine dq rfl vadd ?_
       refine WD.l ?_
       refine dst rfl ?_
       refine WD.done ?_
       exact WQ.pick (S' := []) [] rfl hJ
 refine WQ.ret0 (.inr rfl) Tryz.results128 ?_
 intro w' hp; exact ⟨rfl, hp.cov cov⟩

section
variable {c : Cx} {Q : Post} {S : Slots} {L Lr Lx : List (Nat × Blk)} {ops : Array Oper} {d : Option Tmp} {ty : TypeId} {pos : String} {af : Array Edge} {rest : List Oper} {v : Value} {g : Option (Nat × Bool)} {i : Nat} {p : Plan}
theorem cmsV {f : FuncId} {xc : Operand} {xs : Array Operand} {ats : Array TypeId} {vs : List Value} {fs cs : Array Value} {bs : List Nat} {M : List (Nat × Blk)} (hx : ev S xc = some (.func (.func f) fs cs)) (ha : evs S xs.toList = some vs)
    (hc : ∀ w, HP c.w0 w c.O L → Calls c.P f (fs.toList ++ vs ++ cs.toList).toArray w fun e w' => e = .returned v ∧ HP w w' bs M) (k : WL c ops Q rest (putS d v S) (M ++ Lr))
    (hdel : Dels bs L Lr := by exact dels) (hf : fnB c.P f = true := by kernel_rfl) (hd : inB c.n d = true := by exact rfl) : WL c ops Q (⟨d, .call ⟨.value xc, xs, ats⟩, ty, pos, af, none⟩ :: rest) S L :=
  cgV (ι := Unit) (V := fun _ => v) (M := fun _ => M) (A := fun _ => True) hx ha (fun w hp => (hc w hp).mono fun _ _ ⟨h1, h2⟩ => ⟨(), trivial, h1, h2⟩) (fun _ _ => k) hdel hf hd
theorem Sr.past {w w' : World} {bs : List Nat} {M : List (Nat × Blk)} {s n : Nat} {A : Option Addr} {xs : List Value} (hp : HP c.w0 w c.O L) (h : HP w w' bs M) (hdel : Dels bs L Lr := by exact dels) (hs : Sr c Lr s A n xs) : SrW w' s A n xs :=
  hs w' ((hp.trans hdel h).sub (List.sublist_append_right _ _))
end
def sec1 (i : Int) : List Int := layF 0 (highF (i + 1) 4) (List.replicate 64 0)
def sec2 (i : Int) (n : Int) : List Int := layF 4 [n] (sec1 i)
def secF (i : Int) (b : List Int) : List Int := layF 5 b (sec2 i b.length)
@[simp] theorem sec1_len {i : Int} : (sec1 i).length = 64 := by unfold sec1; rw [layF_len] <;> simp
@[simp] theorem sec2_len {i n : Int} : (sec2 i n).length = 64 := by unfold sec2; rw [layF_len] <;> simp
theorem secF_len {i : Int} {b : List Int} (h : b.length ≤ 59) : (secF i b).length = 64 := by unfold secF; rw [layF_len] <;> simp; omega

theorem sector22_calls (i : Int) (hi : 0 ≤ i ∧ i ≤ 1000000) (A : Option Addr) (n cap : Nat) (b : List Int) (hn : n ≤ cap) (h59 : n ≤ 59) (w : World) (hb : SrW w 1 A n (iv .u8 b)) :
    Calls Tryz.prog 101 [.int .i64 i, .slice A n cap].toArray w fun e w' => e = .returned (AG [(64, iv .u8 (secF i b))]) ∧ HP w w' [] [] := by
 have hbl := SrW.ilen hb
 subst hbl
 have hsl := secF_len (i := i) h59
 refine calls_of_W Tryz.func101 rfl Tryz.ntmps101 rfl rfl (HP.refl w []) ?_
 refine sr ?_
 refine oal [(64, iv .u8 (List.replicate 64 0))] (fun b4 => ?_)
 refine nx ?_
 refine oal [(64, iv .u8 (List.replicate 64 0))] (fun b5 => ?_)
 refine nx ?_
 refine oal [(1, [.int .i64 0])] (fun b6 => ?_)
 refine ost ?_
 refine nx ?_
 refine ov V_makeFunc ?_
 refine oas ?_
 refine nx ?_
 refine omv ?_
 refine omv ?_
 first | refine ov vaddN ?_ | refine ov vadd ?_
 first | refine ov (vcvN .u64) ?_ | refine ov (vcv .u64) ?_
 refine cg rfl (fun w hp => high_calls _ 4 w sc) (fun b13 h13 => ?_)
 refine cmsV rfl rfl (fun w hp => lay22_calls b6 b5 0 (List.replicate 64 0) (highF (i + 1) 4) (sec1 i) rfl (some ⟨b13, 0, none⟩) 4 4 (by omega) (by omega) (by simp) (by omega) w (HP.here hp cov) (fun w1 M h1 => Sr.past hp h1 (hs := by exact Sr.own at_ iv_one))) ?_
 refine nx ?_
 refine omv ?_
 refine omv ?_
 refine ov vlenS ?_
 first | refine ov (vcvN .u8) ?_ | refine ov (vcv .u8) ?_
 refine obsI (k := .u8) 5 1 [_] (fun b19 => ?_)
 refine cmsV rfl rfl (fun w hp => lay22_calls b6 b5 4 (sec1 i) [(b.length : Int)] (sec2 i b.length) rfl (some ⟨b19, 0, none⟩) 1 1 (by omega) (by omega) (by simp) (by omega) w (HP.here hp cov) (fun w1 M h1 => Sr.past hp h1 (hs := by exact Sr.own at_ iv_one))) ?_
 refine nx ?_
 refine omv ?_
 refine omv ?_
 refine cmsV rfl rfl (fun w hp => lay22_calls b6 b5 5 (sec2 i b.length) b (secF i b) rfl A b.length cap hn (by omega) (by simp) (by omega) w (HP.here hp cov) (fun w1 M h1 => Sr.past hp h1 (hs := by exact hb.old0))) ?_
 refine nx ?_
 refine ov (vlda 64) ?_
 refine osta 64 ?_
 refine nq ?_
 refine W.ret ?_
 refine WQ.ret1 Tryz.results101 (.cellA 64 (by kernel_rfl) rfl at_ (by rfl)) ?_
 intro w' hp; exact ⟨rfl, hp.forget⟩

def recN (s : List Int) : Nat := (s.getD 4 0).toNat
def recB (s : List Int) : List Int := if recN s ≤ 59 then (s.drop 5).take (recN s) else []
def recI (i : Int) (s : List Int) : Bool := decide (recN s ≤ 59) && decide (secF i (recB s) = s)
theorem recB_le {s : List Int} : (recB s).length ≤ 59 := by unfold recB; split <;> simp; omega
theorem rec_no {i : Int} {s : List Int} (h : ¬ recN s ≤ 59) : recB s = [] ∧ recI i s = false := by unfold recI recB; rw [if_neg h, decide_eq_false h]; exact ⟨rfl, rfl⟩
theorem rec_ok {i : Int} {s : List Int} (h : recN s ≤ 59) : recB s = (s.drop 5).take (recN s) ∧ recI i s = decide (secF i ((s.drop 5).take (recN s)) = s) := by unfold recI recB; rw [if_pos h, decide_eq_true h]; exact ⟨rfl, rfl⟩

theorem record22_calls (i : Int) (hi : 0 ≤ i ∧ i ≤ 1000000) (s : List Int) (hs : Sec s) (w : World) :
    Calls Tryz.prog 60 [.int .i64 i, AG [(64, iv .u8 s)]].toArray w fun e w' => ∃ o : Gr, (GrOK o (recB s).length ∧ (recI i s = true → o ≠ none)) ∧ e = .returned (.tuple #[.slice (gA o) (recB s).length (gC o), .bool (recI i s)]) ∧ HP w w' [] (gL o (recB s).length (iv .u8 (recB s)) 5) := by
 obtain ⟨hsl, hsb⟩ := hs
 have hg := hsb.get 4
 have hn : ((recN s : Nat) : Int) = s.getD 4 0 := by unfold recN; omega
 refine calls_of_W Tryz.func60 rfl Tryz.ntmps60 rfl rfl (HP.refl w []) ?_
 refine sr ?_
 refine obxa (fun b3 => ?_)
 refine oas ?_
 refine oas ?_
 refine nx ?_
 refine ov (viA0 (j := 4) 64) ?_
 first | refine ov vldI ?_ | refine ov vld ?_
 first | refine ov (vcvN .i64) ?_ | refine ov (vcv .i64) ?_
 refine oas ?_
 refine nq ?_
 refine W.seq ?_
 refine sr ?_
 refine omv ?_
 refine ov (v2 V_gtr) ?_
 refine nq ?_
 refine W.cond_dec rfl (fun g1 => ?_) (fun g1 => ?_)
 · refine W.seq ?_
   refine W.region ?_
   refine oas ?_
   refine oas ?_
   refine nq ?_
   refine W.ret ?_
   refine WQ.then_ret ?_
   refine WQ.ret2 Tryz.results60 (.tmp rfl) (.tmp rfl) ?_
   intro w' hp; obtain ⟨e1, e2⟩ := rec_no (i := i) (s := s) (by omega)
   rw [e1, e2]; exact ⟨none, ⟨rfl, by simp⟩, rfl, hp.cov cov⟩
 · refine W.skip ?_
   refine WQ.then ?_
   refine W.seq ?_
   rw [← hn] at g1 ⊢
   have hrl : recN s ≤ 59 := by omega
   have hfl := secF_len (i := i) (b := (s.drop 5).take (recN s)) (by simp; omega)
   refine W.region ?_
   refine obsI (k := .u8) 5 1 [] (fun b13 => ?_)
   refine omv ?_
   first | refine ov vaddN ?_ | refine ov vadd ?_
   refine ov (V_slicePN (s := 1) (len := 64) (l := 5) (h := 5 + recN s) (recN s) 59 (by kernel_rfl) rfl (.yes rfl rfl) (.yes rfl (by omega)) rfl rfl hrl (by omega)) ?_
   refine oap0 (k := .u8) (l2 := (s.drop 5).take (recN s)) 5 1 (fun b17 c17 r17 h17 => ?_) (hs := fun w hp => SrW.partI (l := 5) (HP.sall hp (by repeat (first | exact List.Mem.head _ | apply List.Mem.tail)) iv_one) (by omega))
   refine oas ?_
   refine nq ?_
   refine W.seq ?_
   refine dr (.q 0 (.q 1 (.q 2 (.q 4 (.l 3 (.q 5 (.q 6 (.q 7 (.done))))))))) [(b3, _)] ?_
   refine dq rfl (V_move rfl) ?_
   refine dq rfl (V_move rfl) ?_
   refine dq rfl (V_move rfl) ?_
   refine dq rfl (vlda 64) ?_
   refine WD.l ?_
   refine dcp rfl rfl (fun w hp => sector22_calls _ sc _ _ _ _ sc sc w sw) ?_
   refine dq rfl (veqlI 3 64 .u8) ?_
   refine dq rfl (V_assign rfl) ?_
   refine dq rfl (V_assign rfl) ?_
   refine WD.done ?_
   refine WQ.then ?_
   refine W.ret ?_
   refine WQ.ret2 Tryz.results60 (.tmp rfl) (.tmp rfl) ?_
   intro w' hp; obtain ⟨e1, e2⟩ := rec_ok (i := i) (s := s) (by omega)
   have e3 : ((s.drop 5).take (recN s)).length = recN s := by simp; omega
   rw [e1, e2, e3]; exact ⟨some (b17, c17, r17), ⟨h17, by simp⟩, rfl, hp.cov cov⟩

def secH (i : Int) (b : List Int) : List Int := highF (i + 1) 4 ++ [(b.length : Int)] ++ b
@[simp] theorem secH_len {i : Int} {b : List Int} : (secH i b).length = 4 + 1 + b.length := by simp [secH]; omega
theorem secF_eq {i : Int} {b : List Int} (h : b.length ≤ 59) : secF i b = (secH i b).take (4 + 1 + b.length) ++ List.replicate (64 - (4 + 1 + b.length)) 0 := by
  have e1 : sec1 i = highF (i + 1) 4 ++ List.replicate 60 0 := by
    unfold sec1 layF; rw [List.take_zero, List.nil_append, List.drop_replicate]; simp
  have e2 : sec2 i b.length = highF (i + 1) 4 ++ [(b.length : Int)] ++ List.replicate 59 0 := by
    unfold sec2 layF; rw [e1, List.take_append_of_le_length (by simp), List.take_of_length_le (by simp), List.drop_append]
    simp
  have hx : (highF (i + 1) 4 ++ [(b.length : Int)]).length = 5 := by simp
  unfold secF layF
  rw [e2, List.take_of_length_le (l := secH i b) (by simp), List.take_append_of_le_length (by omega), List.take_of_length_le (l := highF (i + 1) 4 ++ [(b.length : Int)]) (by omega), List.drop_append,
    List.drop_of_length_le (l := highF (i + 1) 4 ++ [(b.length : Int)]) (by omega), hx, List.drop_replicate, List.nil_append]
  unfold secH
  rw [show 59 - (5 + b.length - 5) = 64 - (4 + 1 + b.length) by omega]
end Go.Proofs.YtmeckbjinmgbbaaGreat