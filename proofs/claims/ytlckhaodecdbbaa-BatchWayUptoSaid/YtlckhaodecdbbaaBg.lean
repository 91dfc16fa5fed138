/- Batches (batch.Get), in the program. -/
import Derived.Test.YtlckhaodecdbbaaBp
set_option linter.unusedVariables false
set_option linter.unusedSimpArgs false
namespace Go.Cx
theorem Sep.merge {A B C : Assn} {L : List Assn} (hC : ∀ k, A.ok k → B.ok k → C.ok k) {h : PH} (s : Sep (A :: B :: L) h) : Sep (C :: L) h := by
  obtain ⟨S, a, b⟩ := Sep.append (H := [A, B]) s
  exact ⟨S, hC _ a.head a.tail.head, b⟩
theorem Sep.merge' {A B C : Assn} {L M N : List Assn} (p : Pick A L M) (q : Pick B M N) (hC : ∀ k, A.ok k → B.ok k → C.ok k) {h : PH} (s : Sep L h) : Sep (C :: N) h := Sep.merge hC (Sep.cons_mono (fun _ => q.sep) (p.sep s))
theorem Sep.intro {C : Assn} {L : List Assn} (hC : ∀ k, C.ok k) {h : PH} (s : Sep L h) : Sep (C :: L) h :=
  ⟨fun _ => false, hC _, by
    have : h.less (fun _ => false) = h := by funext x; simp [PH.less]
    rw [this]; exact s⟩
theorem Sep.turn {A C : Assn} {L M : List Assn} (p : Pick A L M) (hC : ∀ k, A.ok k → C.ok k) {h : PH} (s : Sep L h) : Sep (C :: M) h := by
  obtain ⟨S, a, b⟩ := p.sep s
  exact ⟨S, hC _ a, b⟩
/-- The values of changes, somewhere. -/
@[irreducible] def valC (l : List ChV) : Assn where
  ok h := ∀ r ∈ l, r.s.ok h
  mono := fun _ _ k e r hr => (e r hr).mono k
theorem valC_ok {l : List ChV} {h : PH} : (valC l).ok h ↔ ∀ r ∈ l, r.s.ok h := by
  unfold valC; exact Iff.rfl
@[irreducible] def valR (l : List RwV) : Assn where
  ok h := ∀ r ∈ l, r.s.ok h
  mono := fun _ _ k e r hr => (e r hr).mono k
theorem valR_ok {l : List RwV} {h : PH} : (valR l).ok h ↔ ∀ r ∈ l, r.s.ok h := by
  unfold valR; exact Iff.rfl
theorem only_true (h : PH) : h.only (fun _ => true) = h := by funext x; simp [PH.only]
theorem own_SlB {e c : Nat} {a : Option Addr} {b : Blk} {h : PH} (s : (own e 1 a b.length c (cb b)).ok h) : SlB.ok h ⟨a, b, c⟩ := by
  obtain ⟨h1, h2, h3, h4⟩ := own_ok.1 s
  refine ⟨fun ha => ?_, h2, h3, rdx_own (.head []) rfl h ⟨fun _ => true, by rw [only_true]; exact s, trivial⟩⟩
  rcases h4 with ⟨_, h0⟩ | ⟨g, _, h5, _⟩
  · exact ⟨List.eq_nil_of_length_eq_zero (show b.length = 0 by omega), h0⟩
  · dsimp only at ha; rw [ha] at h5; cases h5
theorem own_rdx {e sz n c : Nat} {a : Option Addr} {xs : List Value} {h : PH} (s : (own e sz a n c xs).ok h) (h1 : ∀ u ∈ xs, u.oneCell' = true) : rdx a (n * sz) xs h :=
  rdx_RdS (RdS.own (Pick.head []) h1 rfl) h ⟨fun _ => true, by rw [only_true]; exact s, trivial⟩
theorem valC_snoc {e c : Nat} {a : Option Addr} {b k : Blk} {gn : Bool} {l : List ChV} (h : PH) (s : (valC l).ok h) (t : (own e 1 a b.length c (cb b)).ok h) : (valC (l ++ [⟨k, ⟨a, b, c⟩, gn⟩])).ok h := valC_ok.2 fun r hr => by
  rcases List.mem_append.1 hr with hr | hr
  · exact valC_ok.1 s r hr
  · obtain rfl := List.mem_singleton.1 hr
    exact own_SlB t
theorem own_chs {e c : Nat} {a : Option Addr} {l : List ChV} (h : PH) (s : (own e 3 a l.length c (rows ChV.cells l)).ok h) (t : (valC l).ok h) : (chsA a l).ok h := chsA_ok.2 ⟨own_rdx s (one_ch l), valC_ok.1 t⟩
theorem own_tab {e c : Nat} {a : Option Addr} {l : List RwV} (h : PH) (s : (own e 2 a l.length c (rows RwV.cells l)).ok h) (t : (valR l).ok h) : (tabA a l).ok h := tabA_ok.2 ⟨own_rdx s (one_rw l), valR_ok.1 t⟩
theorem own_none {e sz n c : Nat} {a : Option Addr} {xs : List Value} {L L' : List Assn} (p : Pick (own e sz a n c xs) L L') : ∀ h, Sep L h → (a = none → n = 0 ∧ c = 0) ∧ n ≤ c ∧ c ≤ maxLen := fun h hs => by
  obtain ⟨h1, h2, h3, h4⟩ := own_ok.1 (p.ok hs)
  refine ⟨fun ha => ?_, h2, h3⟩
  rcases h4 with ⟨_, h0⟩ | ⟨g, _, h5, _⟩
  · exact ⟨by omega, h0⟩
  · rw [ha] at h5; cases h5
theorem chs_nil (k : PH) : (chsA none []).ok k := chsA_ok.2 ⟨.inl rfl, fun _ h => by cases h⟩
theorem tab_nil (k : PH) : (tabA none []).ok k := tabA_ok.2 ⟨.inl rfl, fun _ h => by cases h⟩
theorem ch_last {l : List ChV} (h : 0 < l.length) : (rows ChV.cells l)[0 + (l.length - 1) * 3 + 0]? = some (sv (l[l.length - 1]'(by omega)).key) := by
  rw [Nat.zero_add, rows_at ChV.cells 3 l (ch_len l) (l.length - 1) (by omega) 0 (by omega)]; rfl
theorem last_map {l : List ChV} (h : 0 < l.length) : (l.map ChV.m).getLast? = some (l[l.length - 1]'(by omega)).m := by
  rw [List.getLast?_eq_getElem?, List.length_map, List.getElem?_map, List.getElem?_eq_getElem (by omega)]; rfl
section
variable {P : Program} {ops : Array Oper} {Q : Exit → Act → World → Prop} {n : Nat} {e0 : World} {env : Env} {L M N : List Assn} {rest : List Oper} {K : Act → World → Prop} {A B C : Assn}
theorem CX.merge (C : Assn) (hC : ∀ k, A.ok k → B.ok k → C.ok k) (h : CX P ops Q n e0 env (C :: N) rest) (p : Pick A L M := by repeat (first | exact .head _ | apply Pick.tail | apply Upd.tail)) (q : Pick B M N := by repeat (first | exact .head _ | apply Pick.tail | apply Upd.tail)) : CX P ops Q n e0 env L rest := CX.mem (fun _ s => s.merge' p q hC) h
theorem CC.merge {c : Code} (C : Assn) (hC : ∀ k, A.ok k → B.ok k → C.ok k) (h : CC P c Q n e0 env (C :: N)) (p : Pick A L M := by repeat (first | exact .head _ | apply Pick.tail | apply Upd.tail)) (q : Pick B M N := by repeat (first | exact .head _ | apply Pick.tail | apply Upd.tail)) : CC P c Q n e0 env L := CC.mem (fun _ s => s.merge' p q hC) h
theorem CQ.merge (C : Assn) (hC : ∀ k, A.ok k → B.ok k → C.ok k) (h : CQ K n e0 env (C :: N)) (p : Pick A L M := by repeat (first | exact .head _ | apply Pick.tail | apply Upd.tail)) (q : Pick B M N := by repeat (first | exact .head _ | apply Pick.tail | apply Upd.tail)) : CQ K n e0 env L := CQ.mem (fun _ s => s.merge' p q hC) h
theorem CX.give (C : Assn) (hC : ∀ k, C.ok k) (h : CX P ops Q n e0 env (C :: L) rest) : CX P ops Q n e0 env L rest := CX.mem (fun _ s => s.intro hC) h
theorem CC.give {c : Code} (C : Assn) (hC : ∀ k, C.ok k) (h : CC P c Q n e0 env (C :: L)) : CC P c Q n e0 env L := CC.mem (fun _ s => s.intro hC) h
theorem CQ.give (C : Assn) (hC : ∀ k, C.ok k) (h : CQ K n e0 env (C :: L)) : CQ K n e0 env L := CQ.mem (fun _ s => s.intro hC) h
theorem CX.turn (C : Assn) (hC : ∀ k, A.ok k → C.ok k) (h : CX P ops Q n e0 env (C :: M) rest) (p : Pick A L M := by repeat (first | exact .head _ | apply Pick.tail | apply Upd.tail)) : CX P ops Q n e0 env L rest := CX.mem (fun _ s => s.turn p hC) h
theorem CC.turn {c : Code} (C : Assn) (hC : ∀ k, A.ok k → C.ok k) (h : CC P c Q n e0 env (C :: M)) (p : Pick A L M := by repeat (first | exact .head _ | apply Pick.tail | apply Upd.tail)) : CC P c Q n e0 env L := CC.mem (fun _ s => s.turn p hC) h
theorem CQ.turn (C : Assn) (hC : ∀ k, A.ok k → C.ok k) (h : CQ K n e0 env (C :: M)) (p : Pick A L M := by repeat (first | exact .head _ | apply Pick.tail | apply Upd.tail)) : CQ K n e0 env L := CQ.mem (fun _ s => s.turn p hC) h
end
def GotB (B : Blk) (v : Value) (M : List Assn) : Prop :=
  ∃ a c l, l.map ChV.m = (getB B).1 ∧ v = .tuple #[.slice a l.length c, .int .i64 (getB B).2] ∧ M = [chsA a l] ∧ (a = none → l.length = 0 ∧ c = 0) ∧ l.length ≤ c ∧ l.length ≤ B.length
theorem getN_zero {B : Blk} : getN B 0 4 = if B.length < 4 then (0, 4) else (ofLe (B.take 4), 0) := by
  have := getN_four (B := B) (at_ := 0)
  rw [if_neg (by omega)] at this
  simpa using this
theorem oneB_nx {B : Blk} {at_ : Nat} (h : (oneB B at_).2.2 = 0) (hk : (oneB B at_).1.key ≠ []) : (oneB B at_).2.1 ≤ B.length ∧ at_ < (oneB B at_).2.1 := by
  have := one_inv (b := B) (at_ := at_) (c := (oneB B at_).1) (nx := (oneB B at_).2.1) (by rw [← h]) hk
  exact ⟨this.2.1, this.2.2.2.2⟩
theorem loopB_err {B : Blk} {k at_ : Nat} {l : List ChM} (h : (oneB B at_).2.2 ≠ 0) : loopB B (k + 1) l at_ = ([], (oneB B at_).2.2) := by rw [loopB, if_pos h]
theorem loopB_form {B : Blk} {k at_ : Nat} {l : List ChM} (h : (oneB B at_).2.2 = 0) (hf : fits l (oneB B at_).1 = false) : loopB B (k + 1) l at_ = ([], 5) := by rw [loopB, if_neg (by simp [h]), if_pos hf]
theorem loopB_go {B : Blk} {k at_ : Nat} {l : List ChM} (h : (oneB B at_).2.2 = 0) (hf : fits l (oneB B at_).1 = true) : loopB B (k + 1) l at_ = loopB B k (l ++ [(oneB B at_).1]) (oneB B at_).2.1 := by rw [loopB, if_neg (by simp [h]), if_neg (by simp [hf])]
end Go.Cx
namespace Go.Proofs.Ytlckhaodecdbbaa
open Go.Cx
attribute [local irreducible] Go.Cx.CX Go.Cx.CC Go.Cx.CQ Go.Cx.PS Go.Cx.Ctr Go.Cx.CH
set_option maxRecDepth 10000
theorem bget_c (B : Blk) (hB : B.length ≤ 70368744000000) (a : Option Addr) (cap : Nat) (hcap : B.length ≤ cap) : Ctr Try.prog 63 [.slice a B.length cap] [] (fun x => rdx a B.length (cb B) x) (GotB B) := by
  unfold GotB
  refine Ctr.intro Try.func63 rfl Try.ntmps63 rfl fun x w hp => ?_
  repeat (first | refine CX.psA ?_ | refine CX.nil ?_ | refine CQ.thenN ?_ | refine CQ.thenR ?_ | refine CQ.thenX ?_ | refine CQ.blockN ?_ | refine CQ.blockR ?_ | refine CQ.blockX ?_ | refine CQ.blockYA ?_ | refine CC.seq ?_ | refine CC.block ?_ | refine CC.region ?_ | refine CC.skip ?_ | refine CC.ret ?_ | refine CC.exit ?_ | refine CC.condTA ?_ | refine CC.condFA ?_ | refine CC.condDTA ?_ | refine CC.condDFA ?_ | refine CX.storeA ?_ | refine CX.skipA ?_)
  refine CX.callA (nget_c B a cap 0 4 (by omega) (by omega) (by omega)) ?_ (hpre := by exact rdx_ex (by repeat (first | exact .head _ | apply Pick.tail | apply Upd.tail)) hp)
  rw [getN_zero]
  by_cases h4 : B.length < 4
  · rw [if_pos h4, show getB B = ([], 4) by unfold getB; rw [if_pos h4]]
    rintro _ _ ⟨rfl, rfl⟩
    repeat (first | refine CX.psA ?_ | refine CX.nil ?_ | refine CQ.thenN ?_ | refine CQ.thenR ?_ | refine CQ.thenX ?_ | refine CQ.blockN ?_ | refine CQ.blockR ?_ | refine CQ.blockX ?_ | refine CQ.blockYA ?_ | refine CC.seq ?_ | refine CC.block ?_ | refine CC.region ?_ | refine CC.skip ?_ | refine CC.ret ?_ | refine CC.exit ?_ | refine CC.condTA ?_ | refine CC.condFA ?_ | refine CC.condDTA ?_ | refine CC.condDFA ?_ | refine CX.storeA ?_ | refine CX.skipA ?_)
    refine CQ.give (chsA none []) chs_nil ?_
    (apply CQ.end2; (· rfl); (· exact .tmp rfl); (· exact .tmp rfl))
    · exact ⟨none, 0, [], rfl, rfl, rfl, fun _ => ⟨rfl, rfl⟩, Nat.le_refl _, Nat.zero_le _⟩
    · repeat (first | exact Sel.nil _ | (apply Sel.cons; (· repeat (first | exact .head _ | apply Pick.tail | apply Upd.tail))))
  rw [if_neg h4]
  have hG : getB B = loopB B (ofLe (B.take 4)) [] 4 := by unfold getB; rw [if_neg h4]
  have hn32 := ofLe_lt (B.take 4)
  rw [show (B.take 4).length = 4 by simp; omega] at hn32
  generalize ofLe (B.take 4) = k at hn32 hG
  rintro _ _ ⟨rfl, rfl⟩
  repeat (first | refine CX.psA ?_ | refine CX.nil ?_ | refine CQ.thenN ?_ | refine CQ.thenR ?_ | refine CQ.thenX ?_ | refine CQ.blockN ?_ | refine CQ.blockR ?_ | refine CQ.blockX ?_ | refine CQ.blockYA ?_ | refine CC.seq ?_ | refine CC.block ?_ | refine CC.region ?_ | refine CC.skip ?_ | refine CC.ret ?_ | refine CC.exit ?_ | refine CC.condTA ?_ | refine CC.condFA ?_ | refine CC.condDTA ?_ | refine CC.condDFA ?_ | refine CX.storeA ?_ | refine CX.skipA ?_)
  refine CC.ownNil 156 3 ?_
  refine CC.give (valC []) (fun _ => valC_ok.2 fun _ h => by cases h) ?_
  refine CC.loop (X := Nat × List ChV × Nat × Option Addr × Nat) (fun s => [(20, .int .u64 (s.1 : Int)), (19, .int .u64 (k : Int)), (0, .slice a B.length cap), (6, .slice s.2.2.2.1 s.2.1.length s.2.2.2.2), (7, .int .i64 (s.2.2.1 : Int))])
    (fun s => [own 156 3 s.2.2.2.1 s.2.1.length s.2.2.2.2 (rows ChV.cells s.2.1), valC s.2.1, exact x])
    (fun s => s.1 ≤ k ∧ loopB B (k - s.1) (s.2.1.map ChV.m) s.2.2.1 = getB B ∧ s.2.2.1 ≤ B.length ∧ s.2.1.length + 4 ≤ s.2.2.1 ∧ s.2.1.length ≤ s.1) (fun s => k - s.1) (0, [], 4, none, 0) ⟨Nat.zero_le _, hG.symm, by dsimp only; omega, by simp, Nat.le_refl _⟩ ⟨rfl, rfl, rfl, rfl, rfl, trivial⟩ (by repeat (first | exact Sel.nil _ | (apply Sel.cons; (· repeat (first | exact .head _ | apply Pick.tail | apply Upd.tail))))) ?_
  rintro ⟨i, l, p, a1, c1⟩ ⟨hi, hL, hpb, hlp, hli⟩
  dsimp only at hi hL hpb hlp hli ⊢
  by_cases h1 : i < k
  · rw [show k - i = (k - (i + 1)) + 1 by omega] at hL
    have ho := one_c B (by omega) a cap hcap p (by omega)
    by_cases h2 : (oneB B p).2.2 = 0
    · have hnx := oneB_nx h2
      have hF : fits (l.map ChV.m) (oneB B p).1 = false → getB B = ([], 5) := fun hf => by rw [loopB_form h2 hf] at hL; exact hL.symm
      have hT : fits (l.map ChV.m) (oneB B p).1 = true → loopB B (k - (i + 1)) (l.map ChV.m ++ [(oneB B p).1]) (oneB B p).2.1 = getB B := fun hf => by rw [loopB_go h2 hf] at hL; exact hL
      clear hL
      unfold GotOne at ho
      generalize oneB B p = o at *
      obtain ⟨⟨ck, cv, cg⟩, nx, e⟩ := o
      dsimp only at ho h2 hnx hF hT
      subst h2
      by_cases h0 : l.length = 0
      · obtain rfl : l = [] := List.eq_nil_of_length_eq_zero h0
        by_cases hk : ck = []
        · subst hk
          rw [hF (by rfl)]
          repeat (first | refine CX.psA ?_ | refine CX.nil ?_ | refine CQ.thenN ?_ | refine CQ.thenR ?_ | refine CQ.thenX ?_ | refine CQ.blockN ?_ | refine CQ.blockR ?_ | refine CQ.blockX ?_ | refine CQ.blockYA ?_ | refine CC.seq ?_ | refine CC.block ?_ | refine CC.region ?_ | refine CC.skip ?_ | refine CC.ret ?_ | refine CC.exit ?_ | refine CC.condTA ?_ | refine CC.condFA ?_ | refine CC.condDTA ?_ | refine CC.condDFA ?_ | refine CX.storeA ?_ | refine CX.skipA ?_)
          refine CX.callA (ho) ?_ (hpre := by exact rdx_ex (by repeat (first | exact .head _ | apply Pick.tail | apply Upd.tail)) hp)
          rintro _ _ ⟨a2, c2, rfl, rfl⟩
          repeat (first | refine CX.psA ?_ | refine CX.nil ?_ | refine CQ.thenN ?_ | refine CQ.thenR ?_ | refine CQ.thenX ?_ | refine CQ.blockN ?_ | refine CQ.blockR ?_ | refine CQ.blockX ?_ | refine CQ.blockYA ?_ | refine CC.seq ?_ | refine CC.block ?_ | refine CC.region ?_ | refine CC.skip ?_ | refine CC.ret ?_ | refine CC.exit ?_ | refine CC.condTA ?_ | refine CC.condFA ?_ | refine CC.condDTA ?_ | refine CC.condDFA ?_ | refine CX.storeA ?_ | refine CX.skipA ?_)
          refine CX.allocZ [sv [], .slice none 0 0, .bool false] ?_ (hv := rfl)
          intro b8
          (refine CX.storeB (vs := [sv [], .slice a2 cv.length c2, .bool cg]) ?_ ?_ ?_ ?_; (· rfl); (· rfl); (· exact one_all rfl))
          repeat (first | refine CX.psA ?_ | refine CX.nil ?_ | refine CQ.thenN ?_ | refine CQ.thenR ?_ | refine CQ.thenX ?_ | refine CQ.blockN ?_ | refine CQ.blockR ?_ | refine CQ.blockX ?_ | refine CQ.blockYA ?_ | refine CC.seq ?_ | refine CC.block ?_ | refine CC.region ?_ | refine CC.skip ?_ | refine CC.ret ?_ | refine CC.exit ?_ | refine CC.condTA ?_ | refine CC.condFA ?_ | refine CC.condDTA ?_ | refine CC.condDFA ?_ | refine CX.storeA ?_ | refine CX.skipA ?_)
          refine CC.draw [(0, 0), (1, 0), (2, 0), (3, 0), (4, 0), (5, 0), (6, 0), (7, 0), (8, 0), (9, 0), (10, 1), (11, 0), (12, 1), (13, 0), (14, 0), (15, 0), (16, 0), (17, 1), (18, 0), (19, 0)] mixed rfl (by kernel_rfl) (by kernel_rfl) [bk b8 156 [sv [], .slice a2 cv.length c2, .bool cg]] ?_
          repeat (first | refine CH.pureA ?_ | refine CH.readA ?_ | refine CH.skA ?_ | refine CH.skCA ?_ | refine CH.nil ?_)
          refine CH.pure rfl ((PS.eqlStr (a := []) (b := []) rfl rfl rfl).toT rfl) ?_
          repeat (first | refine CH.pureA ?_ | refine CH.readA ?_ | refine CH.skA ?_ | refine CH.skCA ?_ | refine CH.nil ?_)
          repeat (first | refine CX.psA ?_ | refine CX.nil ?_ | refine CQ.thenN ?_ | refine CQ.thenR ?_ | refine CQ.thenX ?_ | refine CQ.blockN ?_ | refine CQ.blockR ?_ | refine CQ.blockX ?_ | refine CQ.blockYA ?_ | refine CC.seq ?_ | refine CC.block ?_ | refine CC.region ?_ | refine CC.skip ?_ | refine CC.ret ?_ | refine CC.exit ?_ | refine CC.condTA ?_ | refine CC.condFA ?_ | refine CC.condDTA ?_ | refine CC.condDFA ?_ | refine CX.storeA ?_ | refine CX.skipA ?_)
          refine CQ.give (chsA none []) chs_nil ?_
          (apply CQ.end2; (· rfl); (· exact .tmp rfl); (· exact .tmp rfl))
          · exact ⟨none, 0, [], rfl, rfl, rfl, fun _ => ⟨rfl, rfl⟩, Nat.le_refl _, Nat.zero_le _⟩
          · repeat (first | exact Sel.nil _ | (apply Sel.cons; (· repeat (first | exact .head _ | apply Pick.tail | apply Upd.tail))))
        · have hf : fits (([] : List ChV).map ChV.m) ⟨ck, cv, cg⟩ = true := fits_iff.2 ⟨fun y hy => by simp at hy, hk⟩
          have hT' := hT hf
          have hn := hnx hk
          repeat (first | refine CX.psA ?_ | refine CX.nil ?_ | refine CQ.thenN ?_ | refine CQ.thenR ?_ | refine CQ.thenX ?_ | refine CQ.blockN ?_ | refine CQ.blockR ?_ | refine CQ.blockX ?_ | refine CQ.blockYA ?_ | refine CC.seq ?_ | refine CC.block ?_ | refine CC.region ?_ | refine CC.skip ?_ | refine CC.ret ?_ | refine CC.exit ?_ | refine CC.condTA ?_ | refine CC.condFA ?_ | refine CC.condDTA ?_ | refine CC.condDFA ?_ | refine CX.storeA ?_ | refine CX.skipA ?_)
          refine CX.callA (ho) ?_ (hpre := by exact rdx_ex (by repeat (first | exact .head _ | apply Pick.tail | apply Upd.tail)) hp)
          rintro _ _ ⟨a2, c2, rfl, rfl⟩
          repeat (first | refine CX.psA ?_ | refine CX.nil ?_ | refine CQ.thenN ?_ | refine CQ.thenR ?_ | refine CQ.thenX ?_ | refine CQ.blockN ?_ | refine CQ.blockR ?_ | refine CQ.blockX ?_ | refine CQ.blockYA ?_ | refine CC.seq ?_ | refine CC.block ?_ | refine CC.region ?_ | refine CC.skip ?_ | refine CC.ret ?_ | refine CC.exit ?_ | refine CC.condTA ?_ | refine CC.condFA ?_ | refine CC.condDTA ?_ | refine CC.condDFA ?_ | refine CX.storeA ?_ | refine CX.skipA ?_)
          refine CX.allocZ [sv [], .slice none 0 0, .bool false] ?_ (hv := rfl)
          intro b8
          (refine CX.storeB (vs := [sv ck, .slice a2 cv.length c2, .bool cg]) ?_ ?_ ?_ ?_; (· rfl); (· rfl); (· exact one_all rfl))
          repeat (first | refine CX.psA ?_ | refine CX.nil ?_ | refine CQ.thenN ?_ | refine CQ.thenR ?_ | refine CQ.thenX ?_ | refine CQ.blockN ?_ | refine CQ.blockR ?_ | refine CQ.blockX ?_ | refine CQ.blockYA ?_ | refine CC.seq ?_ | refine CC.block ?_ | refine CC.region ?_ | refine CC.skip ?_ | refine CC.ret ?_ | refine CC.exit ?_ | refine CC.condTA ?_ | refine CC.condFA ?_ | refine CC.condDTA ?_ | refine CC.condDFA ?_ | refine CX.storeA ?_ | refine CX.skipA ?_)
          refine CC.draw [(0, 0), (1, 0), (2, 0), (3, 0), (4, 0), (5, 0), (6, 0), (7, 0), (8, 0), (9, 0), (10, 1), (11, 0), (12, 1), (13, 0), (14, 0), (15, 0), (16, 0), (17, 1), (18, 0), (19, 0)] mixed rfl (by kernel_rfl) (by kernel_rfl) [bk b8 156 [sv ck, .slice a2 cv.length c2, .bool cg]] ?_
          repeat (first | refine CH.pureA ?_ | refine CH.readA ?_ | refine CH.skA ?_ | refine CH.skCA ?_ | refine CH.nil ?_)
          refine CH.pure rfl ((PS.eqlStr (a := ck) (b := []) rfl rfl rfl).toF hk) ?_
          repeat (first | refine CH.pureA ?_ | refine CH.readA ?_ | refine CH.skA ?_ | refine CH.skCA ?_ | refine CH.nil ?_)
          repeat (first | refine CX.psA ?_ | refine CX.nil ?_ | refine CQ.thenN ?_ | refine CQ.thenR ?_ | refine CQ.thenX ?_ | refine CQ.blockN ?_ | refine CQ.blockR ?_ | refine CQ.blockX ?_ | refine CQ.blockYA ?_ | refine CC.seq ?_ | refine CC.block ?_ | refine CC.region ?_ | refine CC.skip ?_ | refine CC.ret ?_ | refine CC.exit ?_ | refine CC.condTA ?_ | refine CC.condFA ?_ | refine CC.condDTA ?_ | refine CC.condDFA ?_ | refine CX.storeA ?_ | refine CX.skipA ?_)
          (apply CX.ps; (· apply PS.loadG (vs := [sv ck, .slice a2 cv.length c2, .bool cg]); (· rfl); (· rfl); (· exact CellsAt.all (by repeat (first | exact .head _ | apply Pick.tail | apply Upd.tail))); (· rfl)))
          refine CX.buildSl (parts := [(0, _)]) (vs := [(0, .agg #[sv ck, .slice a2 cv.length c2, .bool cg])]) (out := [sv ck, .slice a2 cv.length c2, .bool cg]) rfl rfl (by decide) (by simp [fillL, Value.cells, setL]) fun bq => ?_
          refine CX.append (m := 1) (news := [sv ck, .slice a2 cv.length c2, .bool cg]) rfl rfl rfl (by repeat (first | exact .head _ | apply Pick.tail | apply Upd.tail)) (RdS.pick (b := bq) (o := 0) (by repeat (first | exact .head _ | apply Pick.tail | apply Upd.tail)) rfl (one_all rfl) rfl) (by simp only [List.length_nil]; omega) (fun h => by cases h) ?_
          intro a3 c3
          refine CX.merge (valC ([] ++ [⟨ck, ⟨a2, cv, c2⟩, cg⟩])) valC_snoc ?_
          repeat (first | refine CX.psA ?_ | refine CX.nil ?_ | refine CQ.thenN ?_ | refine CQ.thenR ?_ | refine CQ.thenX ?_ | refine CQ.blockN ?_ | refine CQ.blockR ?_ | refine CQ.blockX ?_ | refine CQ.blockYA ?_ | refine CC.seq ?_ | refine CC.block ?_ | refine CC.region ?_ | refine CC.skip ?_ | refine CC.ret ?_ | refine CC.exit ?_ | refine CC.condTA ?_ | refine CC.condFA ?_ | refine CC.condDTA ?_ | refine CC.condDFA ?_ | refine CX.storeA ?_ | refine CX.skipA ?_)
          exact CQ.round (x := (i, [], p, a1, c1)) (i + 1, [] ++ [⟨ck, ⟨a2, cv, c2⟩, cg⟩], nx, a3, c3) ⟨by dsimp only; omega, by dsimp only; rw [List.map_append]; exact hT', hn.1, by simp only [List.length_append, List.length_singleton, List.length_nil]; omega, by simp only [List.length_append, List.length_singleton, List.length_nil]; omega⟩ (by dsimp only; omega) ⟨eqI (by simp), rfl, rfl, slE (by simp), rfl, trivial⟩ (by simp only [rows_append, List.length_append]; repeat (first | exact Sel.nil _ | (apply Sel.cons; (· repeat (first | exact .head _ | apply Pick.tail | apply Upd.tail)))))
      · have hl0 : 0 < l.length := by omega
        have hlast := last_map hl0
        refine CC.fact (own_fact (e := 156) (sz := 3) (by repeat (first | exact .head _ | apply Pick.tail | apply Upd.tail)) hl0) ?_
        rintro ⟨hc1, q, rfl⟩
        by_cases hq : klt (l[l.length - 1]).key ck = true
        · have hk : ck ≠ [] := fun h => by rw [h, klt_nil] at hq; cases hq
          have hf : fits (l.map ChV.m) ⟨ck, cv, cg⟩ = true := fits_iff.2 ⟨fun y hy => by rw [hlast] at hy; cases hy; exact hq, hk⟩
          have hT' := hT hf
          have hn := hnx hk
          repeat (first | refine CX.psA ?_ | refine CX.nil ?_ | refine CQ.thenN ?_ | refine CQ.thenR ?_ | refine CQ.thenX ?_ | refine CQ.blockN ?_ | refine CQ.blockR ?_ | refine CQ.blockX ?_ | refine CQ.blockYA ?_ | refine CC.seq ?_ | refine CC.block ?_ | refine CC.region ?_ | refine CC.skip ?_ | refine CC.ret ?_ | refine CC.exit ?_ | refine CC.condTA ?_ | refine CC.condFA ?_ | refine CC.condDTA ?_ | refine CC.condDFA ?_ | refine CX.storeA ?_ | refine CX.skipA ?_)
          refine CX.callA (ho) ?_ (hpre := by exact rdx_ex (by repeat (first | exact .head _ | apply Pick.tail | apply Upd.tail)) hp)
          rintro _ _ ⟨a2, c2, rfl, rfl⟩
          repeat (first | refine CX.psA ?_ | refine CX.nil ?_ | refine CQ.thenN ?_ | refine CQ.thenR ?_ | refine CQ.thenX ?_ | refine CQ.blockN ?_ | refine CQ.blockR ?_ | refine CQ.blockX ?_ | refine CQ.blockYA ?_ | refine CC.seq ?_ | refine CC.block ?_ | refine CC.region ?_ | refine CC.skip ?_ | refine CC.ret ?_ | refine CC.exit ?_ | refine CC.condTA ?_ | refine CC.condFA ?_ | refine CC.condDTA ?_ | refine CC.condDFA ?_ | refine CX.storeA ?_ | refine CX.skipA ?_)
          refine CX.allocZ [sv [], .slice none 0 0, .bool false] ?_ (hv := rfl)
          intro b8
          (refine CX.storeB (vs := [sv ck, .slice a2 cv.length c2, .bool cg]) ?_ ?_ ?_ ?_; (· rfl); (· rfl); (· exact one_all rfl))
          repeat (first | refine CX.psA ?_ | refine CX.nil ?_ | refine CQ.thenN ?_ | refine CQ.thenR ?_ | refine CQ.thenX ?_ | refine CQ.blockN ?_ | refine CQ.blockR ?_ | refine CQ.blockX ?_ | refine CQ.blockYA ?_ | refine CC.seq ?_ | refine CC.block ?_ | refine CC.region ?_ | refine CC.skip ?_ | refine CC.ret ?_ | refine CC.exit ?_ | refine CC.condTA ?_ | refine CC.condFA ?_ | refine CC.condDTA ?_ | refine CC.condDFA ?_ | refine CX.storeA ?_ | refine CX.skipA ?_)
          refine CC.draw [(0, 0), (1, 0), (2, 0), (3, 0), (4, 0), (5, 0), (6, 0), (7, 0), (8, 0), (9, 0), (10, 1), (11, 0), (12, 1), (13, 0), (14, 0), (15, 0), (16, 0), (17, 1), (18, 0), (19, 0)] mixed rfl (by kernel_rfl) (by kernel_rfl) [own 156 3 (some ⟨q, 0, none⟩) l.length c1 (rows ChV.cells l), bk b8 156 [sv ck, .slice a2 cv.length c2, .bool cg]] ?_
          repeat (first | refine CH.pureA ?_ | refine CH.readA ?_ | refine CH.skA ?_ | refine CH.skCA ?_ | refine CH.nil ?_)
          refine CH.pure rfl (PS.indexAddr (j := l.length - 1) rfl rfl rfl (by omega) (by omega)) ?_
          repeat (first | refine CH.pureA ?_ | refine CH.readA ?_ | refine CH.skA ?_ | refine CH.skCA ?_ | refine CH.nil ?_)
          (apply CH.read; (· rfl); (· apply PS.load (v := sv (l[l.length - 1]).key); (· rfl); (· rfl); (· exact CellAt.own (by repeat (first | exact .head _ | apply Pick.tail | apply Upd.tail)) (ch_last (by omega)))); (· repeat (first | exact Sel.nil _ | (apply Sel.cons; (· repeat (first | exact .head _ | apply Pick.tail | apply Upd.tail))))))
          repeat (first | refine CH.pureA ?_ | refine CH.readA ?_ | refine CH.skA ?_ | refine CH.skCA ?_ | refine CH.nil ?_)
          refine CH.pure rfl (PS.geqStr false (by rw [hq]; rfl)) ?_
          repeat (first | refine CH.pureA ?_ | refine CH.readA ?_ | refine CH.skA ?_ | refine CH.skCA ?_ | refine CH.nil ?_)
          refine CH.pure rfl ((PS.eqlStr (a := ck) (b := []) rfl rfl rfl).toF hk) ?_
          repeat (first | refine CH.pureA ?_ | refine CH.readA ?_ | refine CH.skA ?_ | refine CH.skCA ?_ | refine CH.nil ?_)
          repeat (first | refine CX.psA ?_ | refine CX.nil ?_ | refine CQ.thenN ?_ | refine CQ.thenR ?_ | refine CQ.thenX ?_ | refine CQ.blockN ?_ | refine CQ.blockR ?_ | refine CQ.blockX ?_ | refine CQ.blockYA ?_ | refine CC.seq ?_ | refine CC.block ?_ | refine CC.region ?_ | refine CC.skip ?_ | refine CC.ret ?_ | refine CC.exit ?_ | refine CC.condTA ?_ | refine CC.condFA ?_ | refine CC.condDTA ?_ | refine CC.condDFA ?_ | refine CX.storeA ?_ | refine CX.skipA ?_)
          (apply CX.ps; (· apply PS.loadG (vs := [sv ck, .slice a2 cv.length c2, .bool cg]); (· rfl); (· rfl); (· exact CellsAt.all (by repeat (first | exact .head _ | apply Pick.tail | apply Upd.tail))); (· rfl)))
          refine CX.buildSl (parts := [(0, _)]) (vs := [(0, .agg #[sv ck, .slice a2 cv.length c2, .bool cg])]) (out := [sv ck, .slice a2 cv.length c2, .bool cg]) rfl rfl (by decide) (by simp [fillL, Value.cells, setL]) fun bq => ?_
          refine CX.append (m := 1) (news := [sv ck, .slice a2 cv.length c2, .bool cg]) rfl rfl rfl (by repeat (first | exact .head _ | apply Pick.tail | apply Upd.tail)) (RdS.pick (b := bq) (o := 0) (by repeat (first | exact .head _ | apply Pick.tail | apply Upd.tail)) rfl (one_all rfl) rfl) (by omega) (fun h => by cases h) ?_
          intro a3 c3
          refine CX.merge (valC (l ++ [⟨ck, ⟨a2, cv, c2⟩, cg⟩])) valC_snoc ?_
          repeat (first | refine CX.psA ?_ | refine CX.nil ?_ | refine CQ.thenN ?_ | refine CQ.thenR ?_ | refine CQ.thenX ?_ | refine CQ.blockN ?_ | refine CQ.blockR ?_ | refine CQ.blockX ?_ | refine CQ.blockYA ?_ | refine CC.seq ?_ | refine CC.block ?_ | refine CC.region ?_ | refine CC.skip ?_ | refine CC.ret ?_ | refine CC.exit ?_ | refine CC.condTA ?_ | refine CC.condFA ?_ | refine CC.condDTA ?_ | refine CC.condDFA ?_ | refine CX.storeA ?_ | refine CX.skipA ?_)
          exact CQ.round (x := (i, l, p, some ⟨q, 0, none⟩, c1)) (i + 1, l ++ [⟨ck, ⟨a2, cv, c2⟩, cg⟩], nx, a3, c3) ⟨by dsimp only; omega, by dsimp only; rw [List.map_append]; exact hT', hn.1, by simp only [List.length_append, List.length_singleton]; omega, by simp only [List.length_append, List.length_singleton]; omega⟩ (by dsimp only; omega) ⟨eqI (by simp), rfl, rfl, slE (by simp), rfl, trivial⟩ (by simp only [rows_append, List.length_append]; repeat (first | exact Sel.nil _ | (apply Sel.cons; (· repeat (first | exact .head _ | apply Pick.tail | apply Upd.tail)))))
        · have hq : klt (l[l.length - 1]).key ck = false := by simpa using hq
          have hf : fits (l.map ChV.m) ⟨ck, cv, cg⟩ = false := by
            cases hfb : fits (l.map ChV.m) ⟨ck, cv, cg⟩ with
            | false => rfl
            | true => have := (fits_iff.1 hfb).1 _ hlast; rw [show klt (l[l.length - 1]).m.key ck = false from hq] at this; cases this
          rw [hF hf]
          repeat (first | refine CX.psA ?_ | refine CX.nil ?_ | refine CQ.thenN ?_ | refine CQ.thenR ?_ | refine CQ.thenX ?_ | refine CQ.blockN ?_ | refine CQ.blockR ?_ | refine CQ.blockX ?_ | refine CQ.blockYA ?_ | refine CC.seq ?_ | refine CC.block ?_ | refine CC.region ?_ | refine CC.skip ?_ | refine CC.ret ?_ | refine CC.exit ?_ | refine CC.condTA ?_ | refine CC.condFA ?_ | refine CC.condDTA ?_ | refine CC.condDFA ?_ | refine CX.storeA ?_ | refine CX.skipA ?_)
          refine CX.callA (ho) ?_ (hpre := by exact rdx_ex (by repeat (first | exact .head _ | apply Pick.tail | apply Upd.tail)) hp)
          rintro _ _ ⟨a2, c2, rfl, rfl⟩
          repeat (first | refine CX.psA ?_ | refine CX.nil ?_ | refine CQ.thenN ?_ | refine CQ.thenR ?_ | refine CQ.thenX ?_ | refine CQ.blockN ?_ | refine CQ.blockR ?_ | refine CQ.blockX ?_ | refine CQ.blockYA ?_ | refine CC.seq ?_ | refine CC.block ?_ | refine CC.region ?_ | refine CC.skip ?_ | refine CC.ret ?_ | refine CC.exit ?_ | refine CC.condTA ?_ | refine CC.condFA ?_ | refine CC.condDTA ?_ | refine CC.condDFA ?_ | refine CX.storeA ?_ | refine CX.skipA ?_)
          refine CX.allocZ [sv [], .slice none 0 0, .bool false] ?_ (hv := rfl)
          intro b8
          (refine CX.storeB (vs := [sv ck, .slice a2 cv.length c2, .bool cg]) ?_ ?_ ?_ ?_; (· rfl); (· rfl); (· exact one_all rfl))
          repeat (first | refine CX.psA ?_ | refine CX.nil ?_ | refine CQ.thenN ?_ | refine CQ.thenR ?_ | refine CQ.thenX ?_ | refine CQ.blockN ?_ | refine CQ.blockR ?_ | refine CQ.blockX ?_ | refine CQ.blockYA ?_ | refine CC.seq ?_ | refine CC.block ?_ | refine CC.region ?_ | refine CC.skip ?_ | refine CC.ret ?_ | refine CC.exit ?_ | refine CC.condTA ?_ | refine CC.condFA ?_ | refine CC.condDTA ?_ | refine CC.condDFA ?_ | refine CX.storeA ?_ | refine CX.skipA ?_)
          refine CC.draw [(0, 0), (1, 0), (2, 0), (3, 0), (4, 0), (5, 0), (6, 0), (7, 0), (8, 0), (9, 0), (10, 1), (11, 0), (12, 1), (13, 0), (14, 0), (15, 0), (16, 0), (17, 1), (18, 0), (19, 0)] mixed rfl (by kernel_rfl) (by kernel_rfl) [own 156 3 (some ⟨q, 0, none⟩) l.length c1 (rows ChV.cells l), bk b8 156 [sv ck, .slice a2 cv.length c2, .bool cg]] ?_
          repeat (first | refine CH.pureA ?_ | refine CH.readA ?_ | refine CH.skA ?_ | refine CH.skCA ?_ | refine CH.nil ?_)
          refine CH.pure rfl (PS.indexAddr (j := l.length - 1) rfl rfl rfl (by omega) (by omega)) ?_
          repeat (first | refine CH.pureA ?_ | refine CH.readA ?_ | refine CH.skA ?_ | refine CH.skCA ?_ | refine CH.nil ?_)
          (apply CH.read; (· rfl); (· apply PS.load (v := sv (l[l.length - 1]).key); (· rfl); (· rfl); (· exact CellAt.own (by repeat (first | exact .head _ | apply Pick.tail | apply Upd.tail)) (ch_last (by omega)))); (· repeat (first | exact Sel.nil _ | (apply Sel.cons; (· repeat (first | exact .head _ | apply Pick.tail | apply Upd.tail))))))
          repeat (first | refine CH.pureA ?_ | refine CH.readA ?_ | refine CH.skA ?_ | refine CH.skCA ?_ | refine CH.nil ?_)
          refine CH.pure rfl (PS.geqStr true (by rw [hq]; rfl)) ?_
          repeat (first | refine CH.pureA ?_ | refine CH.readA ?_ | refine CH.skA ?_ | refine CH.skCA ?_ | refine CH.nil ?_)
          repeat (first | refine CX.psA ?_ | refine CX.nil ?_ | refine CQ.thenN ?_ | refine CQ.thenR ?_ | refine CQ.thenX ?_ | refine CQ.blockN ?_ | refine CQ.blockR ?_ | refine CQ.blockX ?_ | refine CQ.blockYA ?_ | refine CC.seq ?_ | refine CC.block ?_ | refine CC.region ?_ | refine CC.skip ?_ | refine CC.ret ?_ | refine CC.exit ?_ | refine CC.condTA ?_ | refine CC.condFA ?_ | refine CC.condDTA ?_ | refine CC.condDFA ?_ | refine CX.storeA ?_ | refine CX.skipA ?_)
          refine CQ.give (chsA none []) chs_nil ?_
          (apply CQ.end2; (· rfl); (· exact .tmp rfl); (· exact .tmp rfl))
          · exact ⟨none, 0, [], rfl, rfl, rfl, fun _ => ⟨rfl, rfl⟩, Nat.le_refl _, Nat.zero_le _⟩
          · repeat (first | exact Sel.nil _ | (apply Sel.cons; (· repeat (first | exact .head _ | apply Pick.tail | apply Upd.tail))))
    · rw [loopB_err h2] at hL
      rw [← hL]
      unfold GotOne at ho
      generalize oneB B p = o at *
      repeat (first | refine CX.psA ?_ | refine CX.nil ?_ | refine CQ.thenN ?_ | refine CQ.thenR ?_ | refine CQ.thenX ?_ | refine CQ.blockN ?_ | refine CQ.blockR ?_ | refine CQ.blockX ?_ | refine CQ.blockYA ?_ | refine CC.seq ?_ | refine CC.block ?_ | refine CC.region ?_ | refine CC.skip ?_ | refine CC.ret ?_ | refine CC.exit ?_ | refine CC.condTA ?_ | refine CC.condFA ?_ | refine CC.condDTA ?_ | refine CC.condDFA ?_ | refine CX.storeA ?_ | refine CX.skipA ?_)
      refine CX.callA (ho) ?_ (hpre := by exact rdx_ex (by repeat (first | exact .head _ | apply Pick.tail | apply Upd.tail)) hp)
      rintro _ _ ⟨a2, c2, rfl, rfl⟩
      repeat (first | refine CX.psA ?_ | refine CX.nil ?_ | refine CQ.thenN ?_ | refine CQ.thenR ?_ | refine CQ.thenX ?_ | refine CQ.blockN ?_ | refine CQ.blockR ?_ | refine CQ.blockX ?_ | refine CQ.blockYA ?_ | refine CC.seq ?_ | refine CC.block ?_ | refine CC.region ?_ | refine CC.skip ?_ | refine CC.ret ?_ | refine CC.exit ?_ | refine CC.condTA ?_ | refine CC.condFA ?_ | refine CC.condDTA ?_ | refine CC.condDFA ?_ | refine CX.storeA ?_ | refine CX.skipA ?_)
      refine CX.allocZ [sv [], .slice none 0 0, .bool false] ?_ (hv := rfl)
      intro b8
      (refine CX.storeB (vs := [sv o.1.key, .slice a2 o.1.val.length c2, .bool o.1.gone]) ?_ ?_ ?_ ?_; (· rfl); (· rfl); (· exact one_all rfl))
      repeat (first | refine CX.psA ?_ | refine CX.nil ?_ | refine CQ.thenN ?_ | refine CQ.thenR ?_ | refine CQ.thenX ?_ | refine CQ.blockN ?_ | refine CQ.blockR ?_ | refine CQ.blockX ?_ | refine CQ.blockYA ?_ | refine CC.seq ?_ | refine CC.block ?_ | refine CC.region ?_ | refine CC.skip ?_ | refine CC.ret ?_ | refine CC.exit ?_ | refine CC.condTA ?_ | refine CC.condFA ?_ | refine CC.condDTA ?_ | refine CC.condDFA ?_ | refine CX.storeA ?_ | refine CX.skipA ?_)
      refine CQ.give (chsA none []) chs_nil ?_
      (apply CQ.end2; (· rfl); (· exact .tmp rfl); (· exact .tmp rfl))
      · exact ⟨none, 0, [], rfl, rfl, rfl, fun _ => ⟨rfl, rfl⟩, Nat.le_refl _, Nat.zero_le _⟩
      · repeat (first | exact Sel.nil _ | (apply Sel.cons; (· repeat (first | exact .head _ | apply Pick.tail | apply Upd.tail))))
  · obtain rfl : i = k := by omega
    rw [Nat.sub_self, loopB] at hL
    by_cases h5 : p ≠ B.length
    · rw [if_pos h5] at hL
      rw [← hL]
      repeat (first | refine CX.psA ?_ | refine CX.nil ?_ | refine CQ.thenN ?_ | refine CQ.thenR ?_ | refine CQ.thenX ?_ | refine CQ.blockN ?_ | refine CQ.blockR ?_ | refine CQ.blockX ?_ | refine CQ.blockYA ?_ | refine CC.seq ?_ | refine CC.block ?_ | refine CC.region ?_ | refine CC.skip ?_ | refine CC.ret ?_ | refine CC.exit ?_ | refine CC.condTA ?_ | refine CC.condFA ?_ | refine CC.condDTA ?_ | refine CC.condDFA ?_ | refine CX.storeA ?_ | refine CX.skipA ?_)
      refine CQ.give (chsA none []) chs_nil ?_
      (apply CQ.end2; (· rfl); (· exact .tmp rfl); (· exact .tmp rfl))
      · exact ⟨none, 0, [], rfl, rfl, rfl, fun _ => ⟨rfl, rfl⟩, Nat.le_refl _, Nat.zero_le _⟩
      · repeat (first | exact Sel.nil _ | (apply Sel.cons; (· repeat (first | exact .head _ | apply Pick.tail | apply Upd.tail))))
    · have h5' : p = B.length := by omega
      rw [if_neg h5] at hL
      rw [← hL]
      repeat (first | refine CX.psA ?_ | refine CX.nil ?_ | refine CQ.thenN ?_ | refine CQ.thenR ?_ | refine CQ.thenX ?_ | refine CQ.blockN ?_ | refine CQ.blockR ?_ | refine CQ.blockX ?_ | refine CQ.blockYA ?_ | refine CC.seq ?_ | refine CC.block ?_ | refine CC.region ?_ | refine CC.skip ?_ | refine CC.ret ?_ | refine CC.exit ?_ | refine CC.condTA ?_ | refine CC.condFA ?_ | refine CC.condDTA ?_ | refine CC.condDFA ?_ | refine CX.storeA ?_ | refine CX.skipA ?_)
      refine CQ.fact (own_none (e := 156) (sz := 3) (by repeat (first | exact .head _ | apply Pick.tail | apply Upd.tail))) ?_
      rintro ⟨hn1, hn2, hn3⟩
      refine CQ.merge (chsA a1 l) own_chs ?_
      (apply CQ.end2; (· rfl); (· exact .tmp rfl); (· exact .tmp rfl))
      · exact ⟨a1, c1, l, rfl, rfl, rfl, hn1, hn2, by omega⟩
      · repeat (first | exact Sel.nil _ | (apply Sel.cons; (· repeat (first | exact .head _ | apply Pick.tail | apply Upd.tail))))
end Go.Proofs.Ytlckhaodecdbbaa
