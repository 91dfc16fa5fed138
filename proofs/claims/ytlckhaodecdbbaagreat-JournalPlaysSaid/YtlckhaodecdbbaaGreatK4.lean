/- Part K4: Sg, Hd, Hg, Dk, Dr, L4, L4b, L4c, Rk, Rl, Dn, L4n, L4p. -/
import Derived.Test.YtlckhaodecdbbaaGreatK3
import Derived.Test.YtlckhaodecdbbaaGreatK2
import Derived.Laws.StructEq
set_option linter.unusedVariables false
set_option linter.unusedSimpArgs false
/-! Sealed blocks (seal), in the program: what is read. -/
namespace Go.Proofs.YtlckhaodecdbbaaGreat
open Go.Cx
attribute [local irreducible] Go.Cx.CX Go.Cx.CC Go.Cx.CQ Go.Cx.PS Go.Cx.Ctr Go.Cx.CH
set_option maxRecDepth 10000
/-- What Get answers. -/
def GotM (B : Blk) (v : Value) (M : List Assn) : Prop :=
  ∃ a c, v = .tuple #[.int .u64 ((getM B).1 : Int), .slice a (getM B).2.1.length c, .int .i64 (getM B).2.2] ∧ M = [own 5 1 a (getM B).2.1.length c (cb (getM B).2.1)]
/-- The same, and all of its memory. -/
def GotF (B : Blk) (v : Value) (M : List Assn) : Prop :=
  ∃ a c Z, v = .tuple #[.int .u64 ((getM B).1 : Int), .slice a (getM B).2.1.length c, .int .i64 (getM B).2.2] ∧ M = [own 5 1 a c c (cb Z)] ∧ Z.length = c ∧ (getM B).2.1.length ≤ c ∧ Z.take (getM B).2.1.length = (getM B).2.1 ∧ (a = none → c = 0)
theorem full_rdx {L L' : List Assn} {b t : Nat} {B : Blk} (hB : WB B) (p : Pick (bk b t (cb B)) L L') : ∀ y, Sep L y → rdx (some ⟨b, 0, none⟩) 128 (cb B) y := fun y hy => by
  have hB' : B.length = 128 := hB
  have := rdx_bk p 0 128 (by omega) y hy
  rwa [List.drop_zero, List.take_of_length_le (by omega)] at this
theorem sgetF_c (B : Blk) (hB : WB B) : Ctr Tryz.prog 93 [.agg (cb B).toArray] [] (fun _ => True) (GotF B) := by
  have hB' : B.length = 128 := hB
  have hl8 := valid_top hB
  refine Ctr.intro Tryz.func93 rfl Tryz.ntmps93 rfl fun x w hp => ?_
  refine wk ?_
  (refine CX.boxA ?_; intro r)
  refine wk ?_
  refine CX.callA (sbegin_c) ?_
  rintro _ _ ⟨rfl, rfl⟩
  refine wk ?_
  refine CX.callA (spget_c r 0 8 B hB (by omega) (by omega)) ?_ (hpre := by exact full_rdx hB (by first | exact pickA | exact updA))
  rintro _ _ ⟨rfl, rfl⟩
  rw [List.drop_zero]
  by_cases h1 : ofLe (B.take 8) = 0
  · have e : getM B = (0, [], 5) := by unfold getM; rw [if_pos (.inl (by omega))]
    rw [h1]
    refine wk ?_
    refine CQ.ownNil 5 1 ?_
    (apply CQ.end3; (· rfl); (· exact .tmp rfl); (· exact .tmp rfl); (· exact .tmp rfl))
    · exact (show GotF B _ [own 5 1 none 0 0 (cb [])] from ⟨none, 0, [], by rw [e]; rfl, rfl, rfl, by rw [e]; exact Nat.le_refl _, by rw [e]; rfl, fun _ => rfl⟩)
    · exact selA
  refine wk ?_
  refine CX.callA (send_c) ?_
  rintro _ _ ⟨rfl, rfl⟩
  refine wk ?_
  refine CX.callA (spget_c r 120 8 B hB (by omega) (by omega)) ?_ (hpre := by exact full_rdx hB (by first | exact pickA | exact updA))
  rintro _ _ ⟨rfl, rfl⟩
  rw [show (B.drop 120).take 8 = B.drop 120 from List.take_of_length_le (by simp; omega)]
  refine wk ?_
  refine CX.ps (PS.not64 (ofLe (B.take 8)) hl8 rfl rfl) ?_
  rw [show 18446744073709551615 - ofLe (B.take 8) = top - ofLe (B.take 8) from rfl]
  by_cases h2 : ofLe (B.drop 120) = top - ofLe (B.take 8)
  · refine wk ?_
    refine CX.callA (scheck_c) ?_
    rintro _ _ ⟨rfl, rfl⟩
    refine wk ?_
    refine CX.callA (spget_c r 116 4 B hB (by omega) (by omega)) ?_ (hpre := by exact full_rdx hB (by first | exact pickA | exact updA))
    rintro _ _ ⟨rfl, rfl⟩
    refine wk ?_
    refine CX.callA (ssum_c r B hB) ?_ (hpre := by exact full_rdx hB (by first | exact pickA | exact updA))
    rintro _ _ ⟨rfl, rfl⟩
    by_cases h3 : ofLe ((B.drop 116).take 4) = crcM (B.take 116)
    · have e : getM B = (ofLe (B.take 8), (B.drop 8).take 108, 0) := by unfold getM; rw [if_neg (by omega), if_neg (by omega)]
      have hl : ((B.drop 8).take 108).length = 108 := by simp; omega
      refine wk ?_
      refine CX.buildSl0 ?_
      intro s
      refine wk ?_
      refine CX.callA (sinner_c) ?_
      rintro _ _ ⟨rfl, rfl⟩
      refine wk ?_
      refine CX.callA (spof_c r 8 108 (by omega) (by omega)) ?_
      rintro _ _ ⟨rfl, rfl⟩
      refine wk ?_
      refine CX.appendF (C := (B.drop 8).take 108) hl (by omega) (by omega) (RdS.pick (t := 32) (cs := cb B) (by first | exact pickA | exact updA) (by simp; omega) (one_cb _) (by rw [cb_drop, cb_take])) ?_
      intro q cap Z hq1 hq2 hq3
      refine wk ?_
      (apply CQ.end3; (· rfl); (· exact .tmp rfl); (· exact .tmp rfl); (· exact .tmp rfl))
      · exact (show GotF B _ [own 5 1 (some ⟨q, 0, none⟩) cap cap (cb Z)] from ⟨some ⟨q, 0, none⟩, cap, Z, by rw [e]; dsimp only; rw [hl], rfl, hq2, by rw [e]; dsimp only; omega, by rw [e]; dsimp only; rw [hl]; exact hq3, fun h => by cases h⟩)
      · exact selA
    · have e : getM B = (0, [], 6) := by unfold getM; rw [if_neg (by omega), if_pos h3]
      refine wk ?_
      refine CQ.ownNil 5 1 ?_
      (apply CQ.end3; (· rfl); (· exact .tmp rfl); (· exact .tmp rfl); (· exact .tmp rfl))
      · exact (show GotF B _ [own 5 1 none 0 0 (cb [])] from ⟨none, 0, [], by rw [e]; rfl, rfl, rfl, by rw [e]; exact Nat.le_refl _, by rw [e]; rfl, fun _ => rfl⟩)
      · exact selA
  · have e : getM B = (0, [], 5) := by unfold getM; rw [if_pos (.inr h2)]
    refine wk ?_
    refine CQ.ownNil 5 1 ?_
    (apply CQ.end3; (· rfl); (· exact .tmp rfl); (· exact .tmp rfl); (· exact .tmp rfl))
    · exact (show GotF B _ [own 5 1 none 0 0 (cb [])] from ⟨none, 0, [], by rw [e]; rfl, rfl, rfl, by rw [e]; exact Nat.le_refl _, by rw [e]; rfl, fun _ => rfl⟩)
    · exact selA
theorem sget_c (B : Blk) (hB : WB B) : Ctr Tryz.prog 93 [.agg (cb B).toArray] [] (fun _ => True) (GotM B) :=
  (sgetF_c B hB).conseq fun v M ⟨a, c, Z, hv, hM, h1, h2, h3, _⟩ => ⟨_, ⟨a, c, hv, rfl⟩, fun x h hs => by
    subst hM
    have := own_front h2 h1 hs
    rw [h3] at this; exact this⟩
theorem snumbers_c (A B : Blk) (hA : WB A) (hB : WB B) : Ctr Tryz.prog 124 [.agg (cb A).toArray, .agg (cb B).toArray] [] (fun _ => True) (fun v M => v = .tuple #[.int .u64 ((getM A).1 : Int), .int .u64 ((getM B).1 : Int)] ∧ M = []) := by
  refine Ctr.intro Tryz.func124 rfl Tryz.ntmps124 rfl fun x w hp => ?_
  refine wk ?_
  (refine CX.boxA ?_; intro r)
  refine wk ?_
  (refine CX.boxA ?_; intro s)
  refine wk ?_
  ((apply CX.ps; (· apply PS.loadG (vs := cb (A)); (· rfl); (· rfl); (· exact CellsAt.all (by first | exact pickA | exact updA)); (· exact hA.len))))
  refine CX.callA (sget_c A hA) ?_
  rintro _ _ ⟨a, c, rfl, rfl⟩
  refine wk ?_
  ((apply CX.ps; (· apply PS.loadG (vs := cb (B)); (· rfl); (· rfl); (· exact CellsAt.all (by first | exact pickA | exact updA)); (· exact hB.len))))
  refine CX.callA (sget_c B hB) ?_
  rintro _ _ ⟨a', c', rfl, rfl⟩
  refine wk ?_
  (apply CQ.end2; (· rfl); (· exact .tmp rfl); (· exact .tmp rfl))
  · exact ⟨rfl, rfl⟩
  · exact selA
theorem snewest_c (A B : Blk) (hA : WB A) (hB : WB B) : Ctr Tryz.prog 119 [.agg (cb A).toArray, .agg (cb B).toArray] [] (fun _ => True) (fun v M => v = .tuple #[.int .i64 (newestM A B).1, .int .i64 (newestM A B).2] ∧ M = []) := by
  have hn := getM_lt A
  have hm := getM_lt B
  refine Ctr.intro Tryz.func119 rfl Tryz.ntmps119 rfl fun x w hp => ?_
  refine wk ?_
  (refine CX.boxA ?_; intro r)
  refine wk ?_
  (refine CX.boxA ?_; intro s)
  refine wk ?_
  ((apply CX.ps; (· apply PS.loadG (vs := cb (A)); (· rfl); (· rfl); (· exact CellsAt.all (by first | exact pickA | exact updA)); (· exact hA.len))))
  ((apply CX.ps; (· apply PS.loadG (vs := cb (B)); (· rfl); (· rfl); (· exact CellsAt.all (by first | exact pickA | exact updA)); (· exact hB.len))))
  refine CX.callA (snumbers_c A B hA hB) ?_
  rintro _ _ ⟨rfl, rfl⟩
  refine wk ?_
  refine CX.ps (PS.orN (k := .u64) (getM A).1 (getM B).1 rfl hn hm rfl rfl rfl) ?_
  by_cases h1 : (getM A).1 = 0 ∧ (getM B).1 = 0
  · have e : newestM A B = (0, 7) := by unfold newestM; rw [if_pos h1]
    rw [or_zero h1]
    refine wk ?_
    rw [e]
    (apply CQ.end2; (· rfl); (· exact .tmp rfl); (· exact .tmp rfl))
    · exact ⟨rfl, rfl⟩
    · exact selA
  have h3 := or_nz h1
  generalize (getM A).1 ||| (getM B).1 = q at h3
  by_cases h2 : (getM A).1 < (getM B).1
  · have e : newestM A B = (1, 0) := by unfold newestM; rw [if_neg h1, if_pos h2]
    refine wk ?_
    rw [e]
    (apply CQ.end2; (· rfl); (· exact .tmp rfl); (· exact .tmp rfl))
    · exact ⟨rfl, rfl⟩
    · exact selA
  · have e : newestM A B = (0, 0) := by unfold newestM; rw [if_neg h1, if_neg h2]
    refine wk ?_
    rw [e]
    (apply CQ.end2; (· rfl); (· exact .tmp rfl); (· exact .tmp rfl))
    · exact ⟨rfl, rfl⟩
    · exact selA
theorem snext_c (A B : Blk) (hA : WB A) (hB : WB B) : Ctr Tryz.prog 103 [.agg (cb A).toArray, .agg (cb B).toArray] [] (fun _ => True) (fun v M => v = .int .i64 (nextM A B) ∧ M = []) := by
  refine Ctr.intro Tryz.func103 rfl Tryz.ntmps103 rfl fun x w hp => ?_
  refine wk ?_
  (refine CX.boxA ?_; intro r)
  refine wk ?_
  (refine CX.boxA ?_; intro s)
  refine wk ?_
  ((apply CX.ps; (· apply PS.loadG (vs := cb (A)); (· rfl); (· rfl); (· exact CellsAt.all (by first | exact pickA | exact updA)); (· exact hA.len))))
  ((apply CX.ps; (· apply PS.loadG (vs := cb (B)); (· rfl); (· rfl); (· exact CellsAt.all (by first | exact pickA | exact updA)); (· exact hB.len))))
  by_cases h1 : (getM A).1 = 0 ∧ (getM B).1 = 0
  · have e : newestM A B = (0, 7) := by unfold newestM; rw [if_pos h1]
    have e2 : nextM A B = 0 := by unfold nextM; rw [if_pos h1]
    (have cc := snewest_c A B hA hB; simp only [e] at cc; refine CX.callA cc ?_; clear cc; rintro _ _ ⟨rfl, rfl⟩)
    refine wk ?_
    rw [e2]
    ((apply CQ.end1; (· rfl); (· exact .tmp rfl)); (· exact ⟨rfl, rfl⟩); (· exact selA))
  by_cases h2 : (getM A).1 < (getM B).1
  · have e : newestM A B = (1, 0) := by unfold newestM; rw [if_neg h1, if_pos h2]
    have e2 : nextM A B = 0 := by unfold nextM; rw [if_neg h1, if_pos h2]
    (have cc := snewest_c A B hA hB; simp only [e] at cc; refine CX.callA cc ?_; clear cc; rintro _ _ ⟨rfl, rfl⟩)
    refine wk ?_
    refine CX.ps (PS.xorI 1 1 (by decide) (by decide) rfl rfl rfl) ?_
    refine wk ?_
    rw [e2]
    ((apply CQ.end1; (· rfl); (· exact .tmp rfl)); (· exact ⟨rfl, rfl⟩); (· exact selA))
  · have e : newestM A B = (0, 0) := by unfold newestM; rw [if_neg h1, if_neg h2]
    have e2 : nextM A B = 1 := by unfold nextM; rw [if_neg h1, if_neg h2]
    (have cc := snewest_c A B hA hB; simp only [e] at cc; refine CX.callA cc ?_; clear cc; rintro _ _ ⟨rfl, rfl⟩)
    refine wk ?_
    refine CX.ps (PS.xorI 0 1 (by decide) (by decide) rfl rfl rfl) ?_
    refine wk ?_
    rw [e2]
    ((apply CQ.end1; (· rfl); (· exact .tmp rfl)); (· exact ⟨rfl, rfl⟩); (· exact selA))
end Go.Proofs.YtlckhaodecdbbaaGreat
/-! Heads (head), in the program. -/
namespace Go.Cx
def hc (h : HdM) : List Value := [.int .u8 (h.bank : Int), .int .u32 (h.blocks : Int), .int .u32 (h.batches : Int)]
def maxB (C : Blk) : Nat := C.foldl (fun m c => Max.max m c.toNat) 0
theorem maxB_snoc (C : Blk) (c : UInt8) : maxB (C ++ [c]) = Max.max (maxB C) c.toNat := by simp [maxB]
theorem maxB_pos (C : Blk) : 0 < maxB C ↔ ∃ c ∈ C, c ≠ 0 := by
  have key : ∀ (C : Blk) (m : Nat), 0 < C.foldl (fun m c => Max.max m c.toNat) m ↔ (0 < m ∨ ∃ c ∈ C, c ≠ 0) := by
    intro C
    induction C with
    | nil => intro m; simp
    | cons x C ih =>
      intro m
      rw [List.foldl_cons, ih]
      have hx : 0 < x.toNat ↔ x ≠ 0 := by
        constructor
        · intro h e; rw [e] at h; exact absurd h (by decide)
        · intro h; rcases Nat.eq_zero_or_pos x.toNat with h0 | h0
          · exact absurd (UInt8.toNat_inj.1 h0) h
          · exact h0
      simp only [List.mem_cons, exists_eq_or_imp, ← hx]
      generalize (∃ c, c ∈ C ∧ c ≠ 0) = q
      constructor
      · rintro (h | h)
        · by_cases h2 : 0 < m
          · exact .inl h2
          · exact .inr (.inl (by omega))
        · exact .inr (.inr h)
      · rintro (h | h | h)
        · exact .inl (by omega)
        · exact .inl (by omega)
        · exact .inr h
  have := key C 0
  simpa [maxB] using this
theorem maxB_lt (C : Blk) : maxB C < 256 := by
  have key : ∀ (C : Blk) (m : Nat), m < 256 → C.foldl (fun m c => Max.max m c.toNat) m < 256 := by
    intro C
    induction C with
    | nil => intro m h; exact h
    | cons x C ih => intro m h; have := x.toNat_lt; exact ih _ (by dsimp only; omega)
  exact key C 0 (by omega)
theorem getN_from {B : Blk} {k : Nat} (hk : k = 1 ∨ k = 2 ∨ k = 4 ∨ k = 8) (h : k ≤ B.length) : getN B 0 (k : Int) = (ofLe (B.take k), 0) := by
  unfold getN
  rw [if_neg (by unfold okSize; omega), if_neg (by omega)]
  simp
theorem ofLe_tk (B : Blk) (k : Nat) : ofLe (B.take k) < 256 ^ k := Nat.lt_of_lt_of_le (ofLe_lt (B.take k)) (Nat.pow_le_pow_right (by omega) (by simp; omega))
theorem rdx_tail {g : Nat} {len : Nat} {B : Blk} {y : PH} (h : rdx (some ⟨g, 0, none⟩) len (cb B) y) (hl : len = B.length) (k : Nat) (hk : k ≤ B.length) : rdx (some ⟨g, k, none⟩) (B.length - k) (cb (B.drop k)) y := by
  have := rdx_part rfl h hl k (B.length - k) (by omega)
  rwa [Nat.zero_add, List.take_of_length_le (by simp)] at this
end Go.Cx
namespace Go.Proofs.YtlckhaodecdbbaaGreat
open Go.Cx
theorem run_eqHd (a b : HdM) (w : World) : (Op.equalIn 10000 36 (.agg (hc a).toArray) (.agg (hc b).toArray)).run Tryz.prog w = .ok (decide (a = b)) w := by
  have hu := Tryz.underlying36
  have hf : Tryz.prog.underlying 36 = some (.struct (Tryz.prog.fieldsOf 36)) := by simp only [Program.fieldsOf, hu]
  rw [run_equalIn_agg w 9999 36 _ _ hf Tryz.stoodInHeld36]
  simp only [Program.fieldsOf, hu]
  have e : (a = b) ↔ ((a.bank : Int) = b.bank ∧ (a.blocks : Int) = b.blocks ∧ (a.batches : Int) = b.batches) := by
    obtain ⟨a1, a2, a3⟩ := a
    obtain ⟨b1, b2, b3⟩ := b
    simp; omega
  simp only [Op.eqFields, part, hc]
  simp [Tryz.isAgg5, Tryz.isAgg34, run_equalIn_int w 9998 _ _ _ _ _ Tryz.underlying5, run_equalIn_int w 9998 _ _ _ _ _ Tryz.underlying34]
  by_cases h1 : (a.bank : Int) = b.bank
  · by_cases h2 : (a.blocks : Int) = b.blocks
    · by_cases h3 : (a.batches : Int) = b.batches
      · rw [if_pos h1, if_pos h2, if_pos h3, decide_eq_true (e.2 ⟨h1, h2, h3⟩)]
      · rw [if_pos h1, if_pos h2, if_neg h3, decide_eq_false (fun h => h3 (e.1 h).2.2)]
    · rw [if_pos h1, if_neg h2, decide_eq_false (fun h => h2 (e.1 h).2.1)]
  · rw [if_neg h1, decide_eq_false (fun h => h1 (e.1 h).1)]
section
variable {ops : Array Oper} {n : Nat} {env : Env} {L : List Assn}
variable {dst : Option Tmp} {ty : TypeId} {pos : String} {aft : Array Edge} {g : Option (Nat × Bool)}
theorem eqlHd {u : TypeId} {x y : Operand} {a b : HdM} (hg : gd ops n env g = some true) (hx : ev n env x = some (.agg (hc a).toArray)) (hy : ev n env y = some (.agg (hc b).toArray)) :
    PS Tryz.prog ops n env L ⟨dst, .binOp .eql 36 x y u, ty, pos, aft, g⟩ (.bool (decide (a = b))) :=
  ⟨hg, fun ac w hfr _ => by simp [execOp, hfr.eval hx, hfr.eval hy, run_eqGuard_agg w _ _ _ _ _ _ Tryz.eqGuardType36, run_eql_struct, run_eqHd]⟩
theorem neqHd {u : TypeId} {x y : Operand} {a b : HdM} (hg : gd ops n env g = some true) (hx : ev n env x = some (.agg (hc a).toArray)) (hy : ev n env y = some (.agg (hc b).toArray)) :
    PS Tryz.prog ops n env L ⟨dst, .binOp .neq 36 x y u, ty, pos, aft, g⟩ (.bool (decide (a ≠ b))) :=
  ⟨hg, fun ac w hfr _ => by simp [execOp, hfr.eval hx, hfr.eval hy, run_eqGuard_agg w _ _ _ _ _ _ Tryz.eqGuardType36, run_neq_struct, run_eqHd]⟩
end
attribute [local irreducible] Go.Cx.CX Go.Cx.CC Go.Cx.CQ Go.Cx.PS Go.Cx.Ctr Go.Cx.CH
set_option maxRecDepth 10000
theorem sizes_c : Ctr Tryz.prog 94 [] [] (fun _ => True) (fun v M => v = .agg #[.int .i64 1, .int .i64 4, .int .i64 4] ∧ M = []) := by
  refine Ctr.intro Tryz.func94 rfl Tryz.ntmps94 rfl fun x w hp => ?_
  refine wk ?_
  (refine CX.allocA ?_; intro r)
  refine wk ?_
  (apply CX.ps; (· apply PS.buildArr (out := [.int .i64 1, .int .i64 4, .int .i64 4]); (· rfl); (· rfl); (· rfl)))
  (refine CX.storeB (vs := [.int .i64 1, .int .i64 4, .int .i64 4]) ?_ ?_ ?_ ?_; (· rfl); (· rfl); (· exact one_all rfl))
  refine wk ?_
  ((apply CQ.end1; (· rfl); (· exact .cells inferInstance rfl (CellsAt.all (by first | exact pickA | exact updA)) (rfl))); (· exact ⟨rfl, rfl⟩); (· exact selA))
theorem may_c (h : HdM) : Ctr Tryz.prog 96 [.agg (hc h).toArray] [] (fun _ => True) (fun v M => v = .bool (decide h.may) ∧ M = []) := by
  refine Ctr.intro Tryz.func96 rfl Tryz.ntmps96 rfl fun x w hp => ?_
  refine wk ?_
  (refine CX.boxA (vs := hc h) ?_; intro r)
  by_cases h1 : h.bank < 2
  · by_cases h2 : h.blocks ≤ 4096
    · by_cases h3 : h.batches ≤ h.blocks
      · refine wk ?_
        ((apply CQ.end1; (· rfl); (· exact .tmp rfl)); (· exact ⟨by rw [decide_eq_true (show h.may from ⟨h1, h2, h3⟩)], rfl⟩); (· exact selA))
      · refine wk ?_
        ((apply CQ.end1; (· rfl); (· exact .tmp rfl)); (· exact ⟨by rw [decide_eq_false (show ¬ h.may from fun q => h3 q.2.2)], rfl⟩); (· exact selA))
    · refine wk ?_
      ((apply CQ.end1; (· rfl); (· exact .tmp rfl)); (· exact ⟨by rw [decide_eq_false (show ¬ h.may from fun q => h2 q.2.1)], rfl⟩); (· exact selA))
  · refine wk ?_
    ((apply CQ.end1; (· rfl); (· exact .tmp rfl)); (· exact ⟨by rw [decide_eq_false (show ¬ h.may from fun q => h1 q.1)], rfl⟩); (· exact selA))
theorem hput_c (n : Nat) (hn : n ≤ top) (h : HdM) (ok : h.ok) : Ctr Tryz.prog 102 [.int .u64 (n : Int), .agg (hc h).toArray] [] (fun _ => True) (fun v M => v = .tuple #[.agg (cb (putH n h).1).toArray, .int .i64 (putH n h).2] ∧ M = []) := by
  have o1 := ok.bank
  have o2 := ok.blocks
  have o3 := ok.batches
  refine Ctr.intro Tryz.func102 rfl Tryz.ntmps102 rfl fun x w hp => ?_
  refine wk ?_
  (refine CX.boxA (vs := hc h) ?_; intro r)
  (refine CX.allocZ (cb zblk) ?_; intro s)
  by_cases h1 : n = 0
  · have e : putH n h = (zblk, 2) := by unfold putH; rw [if_pos (.inl h1)]
    rw [e]
    refine wk ?_
    (apply CX.ps; (· apply PS.buildZ (vs := cb zblk); (· rfl); (· simp [cb_z, Value.cells])))
    (apply CX.storeAll; (· rfl); (· rfl); (· rfl); (· first | exact pickA | exact updA); (· exact WB_z.len); (· exact WB_z.len); (· exact one_cb _))
    refine wk ?_
    ((apply CQ.end2; (· rfl); (· exact .cells inferInstance rfl (CellsAt.all (by first | exact pickA | exact updA)) (WB_z.len)); (· exact .tmp rfl)); (· exact ⟨rfl, rfl⟩); (· exact selA))
  by_cases h2 : 4611686018427387904 < n
  · have e : putH n h = (zblk, 2) := by unfold putH; rw [if_pos (.inr (.inl h2))]
    rw [e]
    refine wk ?_
    (apply CX.ps; (· apply PS.buildZ (vs := cb zblk); (· rfl); (· simp [cb_z, Value.cells])))
    (apply CX.storeAll; (· rfl); (· rfl); (· rfl); (· first | exact pickA | exact updA); (· exact WB_z.len); (· exact WB_z.len); (· exact one_cb _))
    refine wk ?_
    ((apply CQ.end2; (· rfl); (· exact .cells inferInstance rfl (CellsAt.all (by first | exact pickA | exact updA)) (WB_z.len)); (· exact .tmp rfl)); (· exact ⟨rfl, rfl⟩); (· exact selA))
  by_cases h3 : h.may
  · have e : putH n h = (sealB n h.bytes, 0) := by unfold putH; rw [if_neg]; rintro (q | q | q) <;> first | exact h1 q | exact h2 q | exact q h3
    have ep : putM n h.bytes = (sealB n h.bytes, 0) := by unfold putM; rw [if_neg h1, if_neg (by rw [bytes_len]; omega)]
    have wB : WB (sealB n h.bytes) := sealB_WB (by rw [bytes_len]; omega)
    rw [e]
    refine wk ?_
    ((apply CX.ps; (· apply PS.loadG (vs := hc h); (· rfl); (· rfl); (· exact CellsAt.all (by first | exact pickA | exact updA)); (· rfl))))
    (have cc := may_c h; simp only [decide_eq_true h3] at cc; refine CX.callA cc ?_; clear cc; rintro _ _ ⟨rfl, rfl⟩)
    refine wk ?_
    (apply CX.ps; (· apply PS.buildArr (out := [.int .u64 (h.bank : Int), .int .u64 (h.blocks : Int), .int .u64 (h.batches : Int)]); (· rfl); (· rfl); (· rfl)))
    refine wk ?_
    refine CC.ownNil 5 1 ?_
    refine CC.loop (X := Nat × Option Addr × Nat × Blk) (fun q => [(33, .int .i64 (q.1 : Int)), (6, .slice q.2.1 q.2.2.2.length q.2.2.1), (32, .agg [.int .u64 (h.bank : Int), .int .u64 (h.blocks : Int), .int .u64 (h.batches : Int)].toArray), (0, .int .u64 (n : Int)), (4, .pointer (some ⟨s, 0, none⟩))])
      (fun q => [own 5 1 q.2.1 q.2.2.2.length q.2.2.1 (cb q.2.2.2), bk s 32 (cb zblk), exact x]) (fun q => (q.1 = 0 ∧ q.2.2.2 = []) ∨ (q.1 = 1 ∧ q.2.2.2 = le 1 h.bank) ∨ (q.1 = 2 ∧ q.2.2.2 = le 1 h.bank ++ le 4 h.blocks) ∨ (q.1 = 3 ∧ q.2.2.2 = h.bytes)) (fun q => 3 - q.1)
      (0, none, 0, []) (.inl ⟨rfl, rfl⟩) ⟨rfl, rfl, rfl, rfl, rfl, trivial⟩ (by exact selA) ?_
    have step : ∀ (B : Blk) (v k : Nat), v < 256 ^ k → True := fun _ _ _ _ => trivial
    rintro ⟨i, a, c, B⟩ (⟨e1, e2⟩ | ⟨e1, e2⟩ | ⟨e1, e2⟩ | ⟨e1, e2⟩) <;> dsimp only at e1 e2 <;> subst e1 <;> subst e2
    · refine wk ?_
      refine CX.ps (PS.indexS (j := 0) rfl rfl rfl rfl (by decide) rfl) ?_
      refine wk ?_
      refine CX.callA (sizes_c) ?_
      rintro _ _ ⟨rfl, rfl⟩
      refine wk ?_
      refine CX.ps (PS.indexS (j := 0) rfl rfl rfl rfl (by decide) rfl) ?_
      refine CX.callA (nput_c h.bank 1 (by omega) (by omega)) ?_
      rintro _ _ ⟨pb, rfl, rfl⟩
      refine wk ?_
      apply CX.append (m := 1) (news := cb (le 1 h.bank))
      · rfl
      · rfl
      · rfl
      · first | exact pickA | exact updA
      · exact RdS.own (by first | exact pickA | exact updA) (one_cb _) rfl
      · simp
      · intro hh; cases hh
      intro a' c'
      rw [← cb_append]
      refine wk ?_
      exact CQ.round (x := (0, a, c, [])) (1, a', c', le 1 h.bank) (.inr (.inl ⟨rfl, rfl⟩)) (by dsimp only; omega) ⟨rfl, rfl, rfl, rfl, rfl, trivial⟩ (by exact selA)
    · refine wk ?_
      refine CX.ps (PS.indexS (j := 1) rfl rfl rfl rfl (by decide) rfl) ?_
      refine wk ?_
      refine CX.callA (sizes_c) ?_
      rintro _ _ ⟨rfl, rfl⟩
      refine wk ?_
      refine CX.ps (PS.indexS (j := 1) rfl rfl rfl rfl (by decide) rfl) ?_
      refine CX.callA (nput_c h.blocks 4 (by omega) (by omega)) ?_
      rintro _ _ ⟨pb, rfl, rfl⟩
      refine wk ?_
      apply CX.append (m := 4) (news := cb (le 4 h.blocks))
      · rfl
      · rfl
      · rfl
      · first | exact pickA | exact updA
      · exact RdS.own (by first | exact pickA | exact updA) (one_cb _) rfl
      · simp
      · intro hh; cases hh
      intro a' c'
      rw [← cb_append]
      refine wk ?_
      exact CQ.round (x := (1, a, c, le 1 h.bank)) (2, a', c', le 1 h.bank ++ le 4 h.blocks) (.inr (.inr (.inl ⟨rfl, rfl⟩))) (by dsimp only; omega) ⟨rfl, rfl, rfl, rfl, rfl, trivial⟩ (by exact selA)
    · refine wk ?_
      refine CX.ps (PS.indexS (j := 2) rfl rfl rfl rfl (by decide) rfl) ?_
      refine wk ?_
      refine CX.callA (sizes_c) ?_
      rintro _ _ ⟨rfl, rfl⟩
      refine wk ?_
      refine CX.ps (PS.indexS (j := 2) rfl rfl rfl rfl (by decide) rfl) ?_
      refine CX.callA (nput_c h.batches 4 (by omega) (by omega)) ?_
      rintro _ _ ⟨pb, rfl, rfl⟩
      refine wk ?_
      apply CX.append (m := 4) (news := cb (le 4 h.batches))
      · rfl
      · rfl
      · rfl
      · first | exact pickA | exact updA
      · exact RdS.own (by first | exact pickA | exact updA) (one_cb _) rfl
      · simp
      · intro hh; cases hh
      intro a' c'
      rw [← cb_append, List.append_assoc]
      refine wk ?_
      exact CQ.round (x := (2, a, c, le 1 h.bank ++ le 4 h.blocks)) (3, a', c', h.bytes) (.inr (.inr (.inr ⟨rfl, rfl⟩))) (by dsimp only; omega) ⟨rfl, rfl, rfl, rfl, rfl, trivial⟩ (by exact selA)
    · dsimp only
      refine wk ?_
      (have cc := sput_c n hn h.bytes (by rw [bytes_len]; omega) a c; simp only [ep] at cc; refine CX.callA cc ?_ (hpre := by exact rdx_own (e := 5) (by first | exact pickA | exact updA) rfl); clear cc; rintro _ _ ⟨rfl, rfl⟩)
      refine wk ?_
      (apply CX.storeAll; (· rfl); (· rfl); (· rfl); (· first | exact pickA | exact updA); (· exact wB.len); (· exact WB_z.len); (· exact one_cb _))
      refine wk ?_
      ((apply CQ.end2; (· rfl); (· exact .cells inferInstance rfl (CellsAt.all (by first | exact pickA | exact updA)) (wB.len)); (· exact .tmp rfl)); (· exact ⟨rfl, rfl⟩); (· exact selA))
  · have e : putH n h = (zblk, 2) := by unfold putH; rw [if_pos (.inr (.inr h3))]
    rw [e]
    refine wk ?_
    ((apply CX.ps; (· apply PS.loadG (vs := hc h); (· rfl); (· rfl); (· exact CellsAt.all (by first | exact pickA | exact updA)); (· rfl))))
    (have cc := may_c h; simp only [decide_eq_false h3] at cc; refine CX.callA cc ?_; clear cc; rintro _ _ ⟨rfl, rfl⟩)
    refine wk ?_
    (apply CX.ps; (· apply PS.buildZ (vs := cb zblk); (· rfl); (· simp [cb_z, Value.cells])))
    (apply CX.storeAll; (· rfl); (· rfl); (· rfl); (· first | exact pickA | exact updA); (· exact WB_z.len); (· exact WB_z.len); (· exact one_cb _))
    refine wk ?_
    ((apply CQ.end2; (· rfl); (· exact .cells inferInstance rfl (CellsAt.all (by first | exact pickA | exact updA)) (WB_z.len)); (· exact .tmp rfl)); (· exact ⟨rfl, rfl⟩); (· exact selA))
end Go.Proofs.YtlckhaodecdbbaaGreat
/-! Heads (head), in the program: what is read. -/
namespace Go.Proofs.YtlckhaodecdbbaaGreat
open Go.Cx
attribute [local irreducible] Go.Cx.CX Go.Cx.CC Go.Cx.CQ Go.Cx.PS Go.Cx.Ctr Go.Cx.CH
set_option maxRecDepth 10000
theorem slmax_c (C : Blk) (h0 : 0 < C.length) (hC : C.length ≤ 9223372036854775807) (a : Option Addr) (cap : Nat) : Ctr Tryz.prog 97 [.slice a C.length cap] [] (fun x => rdx a C.length (cb C) x) (fun v M => v = .int .u8 (maxB C : Int) ∧ M = []) := by
  refine Ctr.intro Tryz.func97 rfl Tryz.ntmps97 rfl fun x w hp => ?_
  obtain ⟨g, off, rfl⟩ := rdx_some hp h0
  have e1 : maxB (C.take 1) = C[0].toNat := by
    rw [List.take_succ_eq_append_getElem h0, maxB_snoc]; simp [maxB]
  refine wk ?_
  (refine CX.indexA (0) ?_ ?_; (· exact h0))
  (refine CX.loadA _ (CellAt.rd (j := 0) (by first | exact pickA | exact updA) hp rfl h0) ?_)
  rw [← e1]
  refine wk ?_
  refine CC.loop (X := Nat) (fun i => [(4, .int .i64 (i : Int)), (3, .int .u8 (maxB (C.take i) : Int)), (0, .slice (some ⟨g, off, none⟩) C.length cap)])
    (fun i => [exact x]) (fun i => 1 ≤ i ∧ i ≤ C.length) (fun i => C.length - i) 1 ⟨Nat.le_refl _, h0⟩ ⟨rfl, rfl, rfl, trivial⟩ (by exact selA) ?_
  rintro i ⟨hi0, hi⟩
  by_cases h1 : i < C.length
  · have e2 : maxB (C.take (i + 1)) = Max.max (maxB (C.take i)) C[i].toNat := by rw [List.take_succ_eq_append_getElem h1, maxB_snoc]
    refine wk ?_
    (refine CX.indexA (i) ?_ ?_; (· exact h1))
    (refine CX.loadA _ (CellAt.rd (j := i) (by first | exact pickA | exact updA) hp rfl h1) ?_)
    refine wk ?_
    exact CQ.round (i + 1) ⟨by omega, by omega⟩ (by omega) ⟨eqI (by omega), eqI (by rw [e2]; omega), rfl, trivial⟩ (by exact selA)
  · obtain rfl : i = C.length := by omega
    rw [List.take_length]
    refine wk ?_
    ((apply CQ.end1; (· rfl); (· exact .tmp rfl)); (· exact ⟨rfl, rfl⟩); (· exact selA))
def GotH (B : Blk) (v : Value) (M : List Assn) : Prop := v = .tuple #[.int .u64 ((getH B).1 : Int), .agg (hc (getH B).2.1).toArray, .int .i64 (getH B).2.2] ∧ M = []
theorem hget_c (B : Blk) (hB : WB B) : Ctr Tryz.prog 74 [.agg (cb B).toArray] [] (fun _ => True) (GotH B) := by
  have hB' : B.length = 128 := hB
  refine Ctr.intro Tryz.func74 rfl Tryz.ntmps74 rfl fun x w hp => ?_
  refine wk ?_
  (refine CX.boxA ?_; intro r)
  refine wk ?_
  refine CX.allocZ (hc HdM.z) ?_ (hv := rfl)
  intro rh
  refine wk ?_
  ((apply CX.ps; (· apply PS.loadG (vs := cb (B)); (· rfl); (· rfl); (· exact CellsAt.all (by first | exact pickA | exact updA)); (· exact hB.len))))
  refine CX.callA (sget_c B hB) ?_
  rintro _ _ ⟨a, c, rfl, rfl⟩
  by_cases he : (getM B).2.2 = 0
  · have hv := get_valid he
    have g := get_ok hv
    have hl : ((B.drop 8).take 108).length = 108 := by simp; omega
    have eb : (getM B).2.1 = (B.drop 8).take 108 := by rw [g]
    have hn : (getM B).1 < 18446744073709551616 := getM_lt B
    rw [eb, hl, he]
    have hH : getH B = if most < (getM B).1 ∨ ¬ (ofBody ((B.drop 8).take 108)).may ∨ ∃ c ∈ ((B.drop 8).take 108).drop 9, c ≠ 0 then (0, HdM.z, 5) else ((getM B).1, ofBody ((B.drop 8).take 108), 0) := by
      unfold getH; rw [if_neg (by simp [he]), eb]
    generalize (B.drop 8).take 108 = D at hl hH
    generalize (getM B).1 = n at hn hH
    refine CX.fact (own_fact (e := 5) (by first | exact pickA | exact updA) (by omega)) ?_
    rintro ⟨hc1, q, rfl⟩
    refine wk ?_
    (refine CX.allocA ?_; intro rl)
    refine wk ?_
    refine CX.callA (sizes_c) ?_
    rintro _ _ ⟨rfl, rfl⟩
    refine wk ?_
    have b1 := ofLe_tk D 1
    have b2 := ofLe_tk (D.drop 1) 4
    have b3 := ofLe_tk (D.drop 5) 4
    refine CC.loop (X := Nat × Nat × List Value) (fun s => [(23, .int .i64 (s.1 : Int)), (6, .slice (some ⟨q, s.2.1, none⟩) (108 - s.2.1) (c - s.2.1)), (22, .agg #[.int .i64 1, .int .i64 4, .int .i64 4]), (8, .pointer (some ⟨rl, 0, none⟩)), (5, .int .u64 (n : Int)), (3, .pointer (some ⟨rh, 0, none⟩))])
      (fun s => [own 5 1 (some ⟨q, 0, none⟩) 108 c (cb D), bk rl 127 s.2.2, bk rh 36 (hc HdM.z), exact x])
      (fun s => s = (0, 0, [.int .u64 0, .int .u64 0, .int .u64 0]) ∨ s = (1, 1, [.int .u64 (ofLe (D.take 1) : Int), .int .u64 0, .int .u64 0]) ∨ s = (2, 5, [.int .u64 (ofLe (D.take 1) : Int), .int .u64 (ofLe ((D.drop 1).take 4) : Int), .int .u64 0]) ∨
        s = (3, 9, [.int .u64 (ofLe (D.take 1) : Int), .int .u64 (ofLe ((D.drop 1).take 4) : Int), .int .u64 (ofLe ((D.drop 5).take 4) : Int)])) (fun s => 3 - s.1)
      (0, 0, [.int .u64 0, .int .u64 0, .int .u64 0]) (.inl rfl) ⟨rfl, rfl, rfl, rfl, rfl, rfl, trivial⟩ (by exact selA) ?_
    have pre : ∀ {L L' : List Assn} (k : Nat), k ≤ 108 → Pick (own 5 1 (some ⟨q, 0, none⟩) 108 c (cb D)) L L' → ∀ y, Sep L y → rdx (some ⟨q, k, none⟩) (108 - k) (cb (D.drop k)) y := fun k hk p y hy => by
      have := rdx_tail (rdx_own p hl.symm y hy) hl.symm k (by omega)
      rwa [hl] at this
    have num : ∀ (k m : Nat), m = 1 ∨ m = 4 → k + m ≤ 108 → Ctr Tryz.prog 95 [.slice (some ⟨q, k, none⟩) (108 - k) (c - k), .int .i64 0, .int .i64 (m : Int)] [] (fun x => rdx (some ⟨q, k, none⟩) (108 - k) (cb (D.drop k)) x) (fun v M => v = .tuple #[.int .u64 (ofLe ((D.drop k).take m) : Int), .int .i64 0] ∧ M = []) := fun k m hm hk => by
      have cc := nget_c (D.drop k) (some ⟨q, k, none⟩) (c - k) 0 (m : Int) (by simp; omega) (by omega) (by omega)
      rw [getN_from (by omega) (by simp; omega)] at cc
      have e1 : (D.drop k).length = 108 - k := by simp [hl]
      rw [e1] at cc
      exact cc
    rintro ⟨i, o, cs⟩ (h | h | h | h) <;> simp only [Prod.mk.injEq] at h <;> obtain ⟨rfl, rfl, rfl⟩ := h
    · dsimp only
      refine wk ?_
      refine CX.ps (PS.indexS (j := 0) rfl rfl rfl rfl (by decide) rfl) ?_
      refine wk ?_
      refine CX.callA (num 0 1 (by omega) (by omega)) ?_ (hpre := by exact pre 0 (by omega) (by first | exact pickA | exact updA))
      rintro _ _ ⟨rfl, rfl⟩
      refine wk ?_
      refine CX.ps (PS.indexArr (j := 0) rfl rfl rfl rfl (by omega)) ?_
      refine wk ?_
      refine CX.ps (PS.sliceLo (l := 1) rfl rfl rfl rfl (by omega) (by omega)) ?_
      rw [if_neg (by omega)]
      refine wk ?_
      exact CQ.round (x := (0, 0, [.int .u64 0, .int .u64 0, .int .u64 0])) (1, 1, [.int .u64 (ofLe (D.take 1) : Int), .int .u64 0, .int .u64 0]) (.inr (.inl rfl)) (by dsimp only; omega) ⟨rfl, rfl, rfl, rfl, rfl, rfl, trivial⟩ (by exact selA)
    · dsimp only
      refine wk ?_
      refine CX.ps (PS.indexS (j := 1) rfl rfl rfl rfl (by decide) rfl) ?_
      refine wk ?_
      refine CX.callA (num 1 4 (by omega) (by omega)) ?_ (hpre := by exact pre 1 (by omega) (by first | exact pickA | exact updA))
      rintro _ _ ⟨rfl, rfl⟩
      refine wk ?_
      refine CX.ps (PS.indexArr (j := 1) rfl rfl rfl rfl (by omega)) ?_
      refine wk ?_
      refine CX.ps (PS.sliceLo (l := 4) rfl rfl rfl rfl (by omega) (by omega)) ?_
      rw [if_neg (by omega)]
      refine wk ?_
      exact CQ.round (x := (1, 1, [.int .u64 (ofLe (D.take 1) : Int), .int .u64 0, .int .u64 0])) (2, 5, [.int .u64 (ofLe (D.take 1) : Int), .int .u64 (ofLe ((D.drop 1).take 4) : Int), .int .u64 0]) (.inr (.inr (.inl rfl))) (by dsimp only; omega) ⟨rfl, slE2 (by first | rfl | (dsimp only; omega)) (by first | rfl | omega | (dsimp only; omega)), rfl, rfl, rfl, rfl, trivial⟩ (by exact selA)
    · dsimp only
      refine wk ?_
      refine CX.ps (PS.indexS (j := 2) rfl rfl rfl rfl (by decide) rfl) ?_
      refine wk ?_
      refine CX.callA (num 5 4 (by omega) (by omega)) ?_ (hpre := by exact pre 5 (by omega) (by first | exact pickA | exact updA))
      rintro _ _ ⟨rfl, rfl⟩
      refine wk ?_
      refine CX.ps (PS.indexArr (j := 2) rfl rfl rfl rfl (by omega)) ?_
      refine wk ?_
      refine CX.ps (PS.sliceLo (l := 4) rfl rfl rfl rfl (by omega) (by omega)) ?_
      rw [if_neg (by omega)]
      refine wk ?_
      exact CQ.round (x := (2, 5, [.int .u64 (ofLe (D.take 1) : Int), .int .u64 (ofLe ((D.drop 1).take 4) : Int), .int .u64 0])) (3, 9, [.int .u64 (ofLe (D.take 1) : Int), .int .u64 (ofLe ((D.drop 1).take 4) : Int), .int .u64 (ofLe ((D.drop 5).take 4) : Int)]) (.inr (.inr (.inr rfl))) (by dsimp only; omega) ⟨rfl, slE2 (by first | rfl | (dsimp only; omega)) (by first | rfl | omega | (dsimp only; omega)), rfl, rfl, rfl, rfl, trivial⟩ (by exact selA)
    · dsimp only
      refine wk ?_
      refine CX.ps (PS.indexArr (j := 0) rfl rfl rfl rfl (by omega)) ?_
      refine wk ?_
      refine CX.ps (PS.indexArr (j := 1) rfl rfl rfl rfl (by omega)) ?_
      refine wk ?_
      refine CX.ps (PS.indexArr (j := 2) rfl rfl rfl rfl (by omega)) ?_
      refine wk ?_
      (apply CX.ps; (· apply PS.build (out := hc (ofBody D)); (· rfl); (· rfl); (· rfl)))
      refine CX.allocZ (hc HdM.z) ?_ (hv := rfl)
      intro rk
      (refine CX.storeB (vs := hc (ofBody D)) ?_ ?_ ?_ ?_; (· rfl); (· rfl); (· exact one_all rfl))
      by_cases h1 : 4611686018427387904 < n
      · have e : getH B = (0, HdM.z, 5) := by rw [hH, if_pos (.inl h1)]
        refine wk ?_
        (apply CX.ps; (· apply PS.build (vs := []) (out := hc HdM.z); (· rfl); (· rfl); (· rfl)))
        refine wk ?_
        (refine CX.storeB (vs := hc HdM.z) ?_ ?_ ?_ ?_; (· rfl); (· rfl); (· exact one_all rfl))
        refine wk ?_
        (apply CQ.end3; (· rfl); (· exact .tmp rfl); (· exact .cells inferInstance rfl (CellsAt.all (by first | exact pickA | exact updA)) rfl); (· exact .tmp rfl))
        · exact ⟨by rw [e] <;> rfl, rfl⟩
        · exact selA
      by_cases h2 : (ofBody D).may
      · by_cases h3 : ∃ c ∈ D.drop 9, c ≠ 0
        · have e : getH B = (0, HdM.z, 5) := by rw [hH, if_pos (.inr (.inr h3))]
          have hm := (maxB_pos (D.drop 9)).2 h3
          refine wk ?_
          ((apply CX.ps; (· apply PS.loadG (vs := hc (ofBody D)); (· rfl); (· rfl); (· exact CellsAt.all (by first | exact pickA | exact updA)); (· rfl))))
          (have cc := may_c (ofBody D); simp only [decide_eq_true h2] at cc; refine CX.callA cc ?_; clear cc; rintro _ _ ⟨rfl, rfl⟩)
          refine wk ?_
          have cc := slmax_c (D.drop 9) (by simp; omega) (by simp; omega) (some ⟨q, 9, none⟩) (c - 9)
          rw [show (D.drop 9).length = 108 - 9 by simp [hl]] at cc
          refine CX.callA (cc) ?_ (hpre := by exact pre 9 (by omega) (by first | exact pickA | exact updA))
          clear cc
          rintro _ _ ⟨rfl, rfl⟩
          refine wk ?_
          (apply CX.ps; (· apply PS.build (vs := []) (out := hc HdM.z); (· rfl); (· rfl); (· rfl)))
          refine wk ?_
          (refine CX.storeB (vs := hc HdM.z) ?_ ?_ ?_ ?_; (· rfl); (· rfl); (· exact one_all rfl))
          refine wk ?_
          (apply CQ.end3; (· rfl); (· exact .tmp rfl); (· exact .cells inferInstance rfl (CellsAt.all (by first | exact pickA | exact updA)) rfl); (· exact .tmp rfl))
          · exact ⟨by rw [e] <;> rfl, rfl⟩
          · exact selA
        · have e : getH B = (n, ofBody D, 0) := by
            rw [hH, if_neg]; rintro (k | k | k)
            · exact h1 k
            · exact k h2
            · exact h3 k
          have hm : maxB (D.drop 9) = 0 := by
            rcases Nat.eq_zero_or_pos (maxB (D.drop 9)) with k | k
            · exact k
            · exact absurd ((maxB_pos _).1 k) h3
          refine wk ?_
          ((apply CX.ps; (· apply PS.loadG (vs := hc (ofBody D)); (· rfl); (· rfl); (· exact CellsAt.all (by first | exact pickA | exact updA)); (· rfl))))
          (have cc := may_c (ofBody D); simp only [decide_eq_true h2] at cc; refine CX.callA cc ?_; clear cc; rintro _ _ ⟨rfl, rfl⟩)
          refine wk ?_
          have cc := slmax_c (D.drop 9) (by simp; omega) (by simp; omega) (some ⟨q, 9, none⟩) (c - 9)
          rw [show (D.drop 9).length = 108 - 9 by simp [hl], hm] at cc
          refine CX.callA (cc) ?_ (hpre := by exact pre 9 (by omega) (by first | exact pickA | exact updA))
          clear cc
          rintro _ _ ⟨rfl, rfl⟩
          refine wk ?_
          refine CC.draw [(0, 0), (1, 1), (2, 0), (3, 3), (4, 0)] mixed rfl (by kernel_rfl) (by kernel_rfl) [bk rk 36 (hc (ofBody D))] ?_
          refine hwk ?_
          (apply CH.read; (· rfl); (· apply PS.loadG (vs := hc (ofBody D)); (· rfl); (· rfl); (· exact CellsAt.all (by first | exact pickA | exact updA)); (· rfl)); (· exact selA))
          refine hwk ?_
          refine CH.tail rfl rfl fun K hK => ?_
          (refine CX.storeB (vs := hc (ofBody D)) ?_ ?_ ?_ ?_; (· rfl); (· rfl); (· exact one_all rfl))
          (refine CX.nil ?_; refine CQ.thenK ?_; apply hK; clear hK K)
          refine hwk ?_
          refine wk ?_
          (apply CQ.end3; (· rfl); (· exact .tmp rfl); (· exact .cells inferInstance rfl (CellsAt.all (by first | exact pickA | exact updA)) rfl); (· exact .tmp rfl))
          · exact ⟨by rw [e] <;> rfl, rfl⟩
          · exact selA
      · have e : getH B = (0, HdM.z, 5) := by rw [hH, if_pos (.inr (.inl h2))]
        refine wk ?_
        ((apply CX.ps; (· apply PS.loadG (vs := hc (ofBody D)); (· rfl); (· rfl); (· exact CellsAt.all (by first | exact pickA | exact updA)); (· rfl))))
        (have cc := may_c (ofBody D); simp only [decide_eq_false h2] at cc; refine CX.callA cc ?_; clear cc; rintro _ _ ⟨rfl, rfl⟩)
        refine wk ?_
        (apply CX.ps; (· apply PS.build (vs := []) (out := hc HdM.z); (· rfl); (· rfl); (· rfl)))
        refine wk ?_
        (refine CX.storeB (vs := hc HdM.z) ?_ ?_ ?_ ?_; (· rfl); (· rfl); (· exact one_all rfl))
        refine wk ?_
        (apply CQ.end3; (· rfl); (· exact .tmp rfl); (· exact .cells inferInstance rfl (CellsAt.all (by first | exact pickA | exact updA)) rfl); (· exact .tmp rfl))
        · exact ⟨by rw [e] <;> rfl, rfl⟩
        · exact selA
  · have e : getH B = (0, HdM.z, (getM B).2.2) := by unfold getH; rw [if_pos he]
    generalize (getM B).2.2 = er at he e
    refine wk ?_
    (apply CX.ps; (· apply PS.build (vs := []) (out := hc HdM.z); (· rfl); (· rfl); (· rfl)))
    refine wk ?_
    (refine CX.storeB (vs := hc HdM.z) ?_ ?_ ?_ ?_; (· rfl); (· rfl); (· exact one_all rfl))
    refine wk ?_
    (apply CQ.end3; (· rfl); (· exact .tmp rfl); (· exact .cells inferInstance rfl (CellsAt.all (by first | exact pickA | exact updA)) rfl); (· exact .tmp rfl))
    · exact ⟨by rw [e] <;> rfl, rfl⟩
    · exact selA
theorem hnewest_c (A B : Blk) (hA : WB A) (hB : WB B) : Ctr Tryz.prog 57 [.agg (cb A).toArray, .agg (cb B).toArray] [] (fun _ => True)
    (fun v M => v = .tuple #[.int .u64 ((newH A B).1 : Int), .agg (hc (newH A B).2.1).toArray, .int .i64 (newH A B).2.2] ∧ M = []) := by
  refine Ctr.intro Tryz.func57 rfl Tryz.ntmps57 rfl fun x w hp => ?_
  refine wk ?_
  (refine CX.boxA ?_; intro r)
  refine wk ?_
  (refine CX.boxA ?_; intro s)
  refine wk ?_
  refine CX.allocZ (hc HdM.z) ?_ (hv := rfl)
  intro ro
  refine wk ?_
  ((apply CX.ps; (· apply PS.loadG (vs := cb (A)); (· rfl); (· rfl); (· exact CellsAt.all (by first | exact pickA | exact updA)); (· exact hA.len))))
  refine CX.callA (hget_c A hA) ?_
  rintro _ _ ⟨rfl, rfl⟩
  refine wk ?_
  refine CX.allocZ (hc HdM.z) ?_ (hv := rfl)
  intro ra
  refine wk ?_
  (refine CX.storeB (vs := hc (getH A).2.1) ?_ ?_ ?_ ?_; (· rfl); (· rfl); (· exact one_all rfl))
  refine wk ?_
  ((apply CX.ps; (· apply PS.loadG (vs := cb (B)); (· rfl); (· rfl); (· exact CellsAt.all (by first | exact pickA | exact updA)); (· exact hB.len))))
  refine CX.callA (hget_c B hB) ?_
  rintro _ _ ⟨rfl, rfl⟩
  refine wk ?_
  refine CX.allocZ (hc HdM.z) ?_ (hv := rfl)
  intro rb
  refine wk ?_
  (refine CX.storeB (vs := hc (getH B).2.1) ?_ ?_ ?_ ?_; (· rfl); (· rfl); (· exact one_all rfl))
  have eN : newH A B = if (getH A).2.2 ≠ 0 ∧ (getH B).2.2 ≠ 0 then (0, HdM.z, 7) else if (getH A).2.2 ≠ 0 ∨ ((getH B).2.2 = 0 ∧ (getH A).1 < (getH B).1) then ((getH B).1, (getH B).2.1, 0) else ((getH A).1, (getH A).2.1, 0) := rfl
  generalize newH A B = N at eN
  generalize (getH A).2.2 = ea at eN
  generalize (getH B).2.2 = eb at eN
  generalize (getH A).1 = na at eN
  generalize (getH B).1 = nb at eN
  generalize (getH A).2.1 = ka at eN
  generalize (getH B).2.1 = kb at eN
  by_cases h1 : ea = 0
  · by_cases h2 : eb = 0 ∧ na < nb
    · obtain ⟨h3, h4⟩ := h2
      have e : N = (nb, kb, 0) := by rw [eN, if_neg (by simp [h1]), if_pos (.inr ⟨h3, h4⟩)]
      refine wk ?_
      refine CC.draw [(0, 0), (1, 1), (2, 0), (3, 3), (4, 0)] mixed rfl (by kernel_rfl) (by kernel_rfl) [bk rb 36 (hc kb)] ?_
      refine hwk ?_
      (apply CH.read; (· rfl); (· apply PS.loadG (vs := hc kb); (· rfl); (· rfl); (· exact CellsAt.all (by first | exact pickA | exact updA)); (· rfl)); (· exact selA))
      refine hwk ?_
      refine CH.tail rfl rfl fun K hK => ?_
      (refine CX.storeB (vs := hc kb) ?_ ?_ ?_ ?_; (· rfl); (· rfl); (· exact one_all rfl))
      (refine CX.nil ?_; refine CQ.thenK ?_; apply hK; clear hK K)
      refine hwk ?_
      refine wk ?_
      (apply CQ.end3; (· rfl); (· exact .tmp rfl); (· exact .cells inferInstance rfl (CellsAt.all (by first | exact pickA | exact updA)) rfl); (· exact .tmp rfl))
      · exact ⟨by rw [e] <;> rfl, rfl⟩
      · exact selA
    · have e : N = (na, ka, 0) := by rw [eN, if_neg (by simp [h1]), if_neg (by simp [h1]; omega)]
      by_cases h3 : eb = 0
      · have h4 : ¬ na < nb := fun q => h2 ⟨h3, q⟩
        refine wk ?_
        refine CC.draw [(0, 0), (1, 1), (2, 0), (3, 3), (4, 0)] mixed rfl (by kernel_rfl) (by kernel_rfl) [bk ra 36 (hc ka)] ?_
        refine hwk ?_
        (apply CH.read; (· rfl); (· apply PS.loadG (vs := hc ka); (· rfl); (· rfl); (· exact CellsAt.all (by first | exact pickA | exact updA)); (· rfl)); (· exact selA))
        refine hwk ?_
        refine CH.tail rfl rfl fun K hK => ?_
        (refine CX.storeB (vs := hc ka) ?_ ?_ ?_ ?_; (· rfl); (· rfl); (· exact one_all rfl))
        (refine CX.nil ?_; refine CQ.thenK ?_; apply hK; clear hK K)
        refine hwk ?_
        refine wk ?_
        (apply CQ.end3; (· rfl); (· exact .tmp rfl); (· exact .cells inferInstance rfl (CellsAt.all (by first | exact pickA | exact updA)) rfl); (· exact .tmp rfl))
        · exact ⟨by rw [e] <;> rfl, rfl⟩
        · exact selA
      · refine wk ?_
        refine CC.draw [(0, 0), (1, 1), (2, 0), (3, 3), (4, 0)] mixed rfl (by kernel_rfl) (by kernel_rfl) [bk ra 36 (hc ka)] ?_
        refine hwk ?_
        (apply CH.read; (· rfl); (· apply PS.loadG (vs := hc ka); (· rfl); (· rfl); (· exact CellsAt.all (by first | exact pickA | exact updA)); (· rfl)); (· exact selA))
        refine hwk ?_
        refine CH.tail rfl rfl fun K hK => ?_
        (refine CX.storeB (vs := hc ka) ?_ ?_ ?_ ?_; (· rfl); (· rfl); (· exact one_all rfl))
        (refine CX.nil ?_; refine CQ.thenK ?_; apply hK; clear hK K)
        refine hwk ?_
        refine wk ?_
        (apply CQ.end3; (· rfl); (· exact .tmp rfl); (· exact .cells inferInstance rfl (CellsAt.all (by first | exact pickA | exact updA)) rfl); (· exact .tmp rfl))
        · exact ⟨by rw [e] <;> rfl, rfl⟩
        · exact selA
  · by_cases h2 : eb = 0
    · have e : N = (nb, kb, 0) := by rw [eN, if_neg (by simp [h2]), if_pos (.inl h1)]
      refine wk ?_
      refine CC.draw [(0, 0), (1, 1), (2, 0), (3, 3), (4, 0)] mixed rfl (by kernel_rfl) (by kernel_rfl) [bk rb 36 (hc kb)] ?_
      refine hwk ?_
      (apply CH.read; (· rfl); (· apply PS.loadG (vs := hc kb); (· rfl); (· rfl); (· exact CellsAt.all (by first | exact pickA | exact updA)); (· rfl)); (· exact selA))
      refine hwk ?_
      refine CH.tail rfl rfl fun K hK => ?_
      (refine CX.storeB (vs := hc kb) ?_ ?_ ?_ ?_; (· rfl); (· rfl); (· exact one_all rfl))
      (refine CX.nil ?_; refine CQ.thenK ?_; apply hK; clear hK K)
      refine hwk ?_
      refine wk ?_
      (apply CQ.end3; (· rfl); (· exact .tmp rfl); (· exact .cells inferInstance rfl (CellsAt.all (by first | exact pickA | exact updA)) rfl); (· exact .tmp rfl))
      · exact ⟨by rw [e] <;> rfl, rfl⟩
      · exact selA
    · have e : N = (0, HdM.z, 7) := by rw [eN, if_pos ⟨h1, h2⟩]
      refine wk ?_
      (apply CX.ps; (· apply PS.build (vs := []) (out := hc HdM.z); (· rfl); (· rfl); (· rfl)))
      refine wk ?_
      (refine CX.storeB (vs := hc HdM.z) ?_ ?_ ?_ ?_; (· rfl); (· rfl); (· exact one_all rfl))
      refine wk ?_
      (apply CQ.end3; (· rfl); (· exact .tmp rfl); (· exact .cells inferInstance rfl (CellsAt.all (by first | exact pickA | exact updA)) rfl); (· exact .tmp rfl))
      · exact ⟨by rw [e] <;> rfl, rfl⟩
      · exact selA
end Go.Proofs.YtlckhaodecdbbaaGreat
/-! The disk's methods: what each does, by the plain words of DkM. -/
namespace Go.Proofs.YtlckhaodecdbbaaGreat
open Go.Cx
attribute [local irreducible] Go.Cx.CX Go.Cx.CC Go.Cx.CQ Go.Cx.PS Go.Cx.Ctr Go.Cx.CH
set_option maxRecDepth 10000

/-- A disk's struct and its two slices. -/
@[irreducible] def disk (p : Nat) (D : DS) : Assn :=
  exA (X := Nat × Nat × Option Addr × Nat) (fun _ => True) fun q =>
    [bk p 61 [.slice (some ⟨q.1, 0, none⟩) D.sure.length q.2.1, .slice q.2.2.1 D.loose.length q.2.2.2, .int .i64 D.left, .int .i64 (D.steps : Int), .bool D.dark],
     own 32 128 (some ⟨q.1, 0, none⟩) D.sure.length q.2.1 (flat D.sure), own 68 129 q.2.2.1 D.loose.length q.2.2.2 (flatL D.loose)]
theorem disk_eq (p : Nat) (D : DS) : disk p D = exA (X := Nat × Nat × Option Addr × Nat) (fun _ => True) fun q =>
    [bk p 61 [.slice (some ⟨q.1, 0, none⟩) D.sure.length q.2.1, .slice q.2.2.1 D.loose.length q.2.2.2, .int .i64 D.left, .int .i64 (D.steps : Int), .bool D.dark],
     own 32 128 (some ⟨q.1, 0, none⟩) D.sure.length q.2.1 (flat D.sure), own 68 129 q.2.2.1 D.loose.length q.2.2.2 (flatL D.loose)] := by unfold disk; rfl

theorem there_ok {D : DS} {n : Int} (h : D.there n = 0) : ∃ k : Nat, n = (k : Int) ∧ k < D.sure.length := by
  unfold DS.there errOf at h
  split at h
  · exact ⟨n.toNat, by omega, by omega⟩
  · cases h
theorem sure_at {D : DS} {N k : Nat} (h : D.wf N) (hk : k < D.sure.length) : ((flat D.sure).drop (0 + k * 128)).take (cb D.sure[k]).length = cb D.sure[k] := by
  have hl : ∀ x ∈ D.sure, (cb x).length = 128 := fun x hx => (h.wb x hx).len
  have := rows_get cb 128 D.sure hl k hk 0 128 (by omega)
  rw [Nat.zero_add, hl _ (by simp)]
  simp only [Nat.add_zero, List.drop_zero] at this
  rw [flat, this, List.take_of_length_le (by rw [hl _ (by simp)]; omega)]
theorem step_wf {D : DS} {N : Nat} (h : D.wf N) : D.step.2.wf (N + 1) := by
  have h1 := h.left0; have h2 := h.left1; have h3 := h.steps; have h4 := h.loose
  unfold DS.step
  split
  · exact ⟨h.lo, h.hi, h.wb, h.lb, h1, h2, by simp; omega, by simp; omega⟩
  · exact ⟨h.lo, h.hi, h.wb, h.lb, by simp; omega, by simp; omega, by simp; omega, by simp; omega⟩
theorem none_c (p : Nat) (D : DS) : Ctr Tryz.prog 36 [.pointer (some ⟨p, 0, none⟩)] [disk p D] (fun _ => True) (fun v M => v = .bool false ∧ M = [disk p D]) := by
  refine Ctr.intro Tryz.func36 rfl Tryz.ntmps36 rfl fun x w hp => ?_
  (refine CC.openL (disk_eq p _) (by first | exact pickA | exact updA) ?_; rintro ⟨sb, sc, la, lc⟩ -)
  refine wk ?_
  (refine CQ.shutL (disk_eq p D) (_, _, _, _) trivial (by exact selA) ?_)
  ((apply CQ.end1; (· rfl); (· exact .tmp rfl)); (· exact ⟨rfl, rfl⟩); (· exact selA))

theorem there_c (p : Nat) (D : DS) (n : Int) : Ctr Tryz.prog 50 [.pointer (some ⟨p, 0, none⟩), .int .i64 n] [disk p D] (fun _ => True) (fun v M => v = .int .i64 (D.there n) ∧ M = [disk p D]) := by
  refine Ctr.intro Tryz.func50 rfl Tryz.ntmps50 rfl fun x w hp => ?_
  refine wk ?_
  refine CX.callA (none_c p D) ?_
  rintro _ _ ⟨rfl, rfl⟩
  (refine CX.openL (disk_eq p _) (by first | exact pickA | exact updA) ?_; rintro ⟨sb, sc, la, lc⟩ -)
  by_cases h1 : n < 0
  · refine wk ?_
    (refine CQ.shutL (disk_eq p D) (_, _, _, _) trivial (by exact selA) ?_)
    ((apply CQ.end1; (· rfl); (· exact .tmp rfl)); (· exact ⟨by simp [DS.there, errOf]; omega, rfl⟩); (· exact selA))
  by_cases h2 : (D.sure.length : Int) ≤ n
  · refine wk ?_
    (refine CQ.shutL (disk_eq p D) (_, _, _, _) trivial (by exact selA) ?_)
    ((apply CQ.end1; (· rfl); (· exact .tmp rfl)); (· exact ⟨by simp [DS.there, errOf]; omega, rfl⟩); (· exact selA))
  · refine wk ?_
    (refine CQ.shutL (disk_eq p D) (_, _, _, _) trivial (by exact selA) ?_)
    ((apply CQ.end1; (· rfl); (· exact .tmp rfl)); (· exact ⟨by simp [DS.there, errOf]; omega, rfl⟩); (· exact selA))

theorem lit_c (p : Nat) (D : DS) (n : Int) : Ctr Tryz.prog 22 [.pointer (some ⟨p, 0, none⟩), .int .i64 n] [disk p D] (fun _ => True) (fun v M => v = .int .i64 (D.lit n) ∧ M = [disk p D]) := by
  obtain ⟨S, l, left, steps, dark⟩ := D
  refine Ctr.intro Tryz.func22 rfl Tryz.ntmps22 rfl fun x w hp => ?_
  refine wk ?_
  refine CX.callA (none_c p _) ?_
  rintro _ _ ⟨rfl, rfl⟩
  (refine CX.openL (disk_eq p _) (by first | exact pickA | exact updA) ?_; rintro ⟨sb, sc, la, lc⟩ -)
  cases dark
  · refine wk ?_
    (refine CX.shutL (disk_eq p ⟨S, l, left, steps, false⟩) (_, _, _, _) trivial (by exact selA) ?_)
    refine CX.callA (there_c p _ n) ?_
    rintro _ _ ⟨rfl, rfl⟩
    refine wk ?_
    ((apply CQ.end1; (· rfl); (· exact .tmp rfl)); (· exact ⟨rfl, rfl⟩); (· exact selA))
  · refine wk ?_
    (refine CQ.shutL (disk_eq p ⟨S, l, left, steps, true⟩) (_, _, _, _) trivial (by exact selA) ?_)
    ((apply CQ.end1; (· rfl); (· exact .tmp rfl)); (· exact ⟨rfl, rfl⟩); (· exact selA))

theorem step_c (p : Nat) (D : DS) {N : Nat} (h : D.wf N) (hN : N < 1000000) : Ctr Tryz.prog 23 [.pointer (some ⟨p, 0, none⟩)] [disk p D] (fun _ => True) (fun v M => v = .int .i64 D.step.1 ∧ M = [disk p D.step.2]) := by
  have hl0 := h.left0
  have hl1 := h.left1
  have hs := h.steps
  obtain ⟨S, l, left, steps, dark⟩ := D
  simp only at hl0 hl1 hs
  refine Ctr.intro Tryz.func23 rfl Tryz.ntmps23 rfl fun x w hp => ?_
  (refine CC.openL (disk_eq p _) (by first | exact pickA | exact updA) ?_; rintro ⟨sb, sc, la, lc⟩ -)
  by_cases h1 : left = 1
  · subst h1
    refine wk ?_
    (refine CQ.shutL (disk_eq p ⟨S, l, 1, steps, true⟩) (_, _, _, _) trivial (by exact selA) ?_)
    ((apply CQ.end1; (· rfl); (· exact .tmp rfl)); (· exact ⟨rfl, rfl⟩); (· exact selA))
  · refine wk ?_
    (refine CQ.shutL (disk_eq p ⟨S, l, max (left - 1) 0, steps + 1, dark⟩) (_, _, _, _) trivial (by exact selA) ?_)
    (apply CQ.end1; (· rfl); (· exact .tmp rfl))
    · exact ⟨by simp [DS.step, h1], rfl⟩
    · simp only [DS.step, h1, if_false]; exact selA

theorem blocks_c (p : Nat) (D : DS) : Ctr Tryz.prog 55 [.pointer (some ⟨p, 0, none⟩)] [disk p D] (fun _ => True) (fun v M => v = .int .i64 D.sure.length ∧ M = [disk p D]) := by
  refine Ctr.intro Tryz.func55 rfl Tryz.ntmps55 rfl fun x w hp => ?_
  refine wk ?_
  refine CX.callA (none_c p _) ?_
  rintro _ _ ⟨rfl, rfl⟩
  (refine CX.openL (disk_eq p _) (by first | exact pickA | exact updA) ?_; rintro ⟨sb, sc, la, lc⟩ -)
  refine wk ?_
  (refine CQ.shutL (disk_eq p D) (_, _, _, _) trivial (by exact selA) ?_)
  ((apply CQ.end1; (· rfl); (· exact .tmp rfl)); (· exact ⟨rfl, rfl⟩); (· exact selA))
theorem steps_c (p : Nat) (D : DS) : Ctr Tryz.prog 12 [.pointer (some ⟨p, 0, none⟩)] [disk p D] (fun _ => True) (fun v M => v = .int .i64 D.steps ∧ M = [disk p D]) := by
  refine Ctr.intro Tryz.func12 rfl Tryz.ntmps12 rfl fun x w hp => ?_
  refine wk ?_
  refine CX.callA (none_c p _) ?_
  rintro _ _ ⟨rfl, rfl⟩
  (refine CX.openL (disk_eq p _) (by first | exact pickA | exact updA) ?_; rintro ⟨sb, sc, la, lc⟩ -)
  refine wk ?_
  (refine CQ.shutL (disk_eq p D) (_, _, _, _) trivial (by exact selA) ?_)
  ((apply CQ.end1; (· rfl); (· exact .tmp rfl)); (· exact ⟨rfl, rfl⟩); (· exact selA))
theorem dark_c (p : Nat) (D : DS) : Ctr Tryz.prog 16 [.pointer (some ⟨p, 0, none⟩)] [disk p D] (fun _ => True) (fun v M => v = .bool D.dark ∧ M = [disk p D]) := by
  refine Ctr.intro Tryz.func16 rfl Tryz.ntmps16 rfl fun x w hp => ?_
  refine wk ?_
  refine CX.callA (none_c p _) ?_
  rintro _ _ ⟨rfl, rfl⟩
  (refine CX.openL (disk_eq p _) (by first | exact pickA | exact updA) ?_; rintro ⟨sb, sc, la, lc⟩ -)
  refine wk ?_
  (refine CQ.shutL (disk_eq p D) (_, _, _, _) trivial (by exact selA) ?_)
  ((apply CQ.end1; (· rfl); (· exact .tmp rfl)); (· exact ⟨rfl, rfl⟩); (· exact selA))
theorem sure_c (p : Nat) (D : DS) (n : Int) {N : Nat} (h : D.wf N) : Ctr Tryz.prog 20 [.pointer (some ⟨p, 0, none⟩), .int .i64 n] [disk p D] (fun _ => True) (fun v M => v = .tuple #[.agg (cb (D.sureAt n).1).toArray, .int .i64 (D.sureAt n).2] ∧ M = [disk p D]) := by
  refine Ctr.intro Tryz.func20 rfl Tryz.ntmps20 rfl fun x w hp => ?_
  refine wk ?_
  (refine CX.allocZ (cb zblk) ?_; intro r)
  refine wk ?_
  refine CX.callA (there_c p D n) ?_
  rintro _ _ ⟨rfl, rfl⟩
  by_cases h0 : D.there n = 0
  · obtain ⟨k, rfl, hk⟩ := there_ok h0
    have hb : WB D.sure[k] := h.wb _ (by simp)
    (refine CX.openL (disk_eq p _) (by first | exact pickA | exact updA) ?_; rintro ⟨sb, sc, la, lc⟩ -)
    refine wk ?_
    (refine CX.indexA (k) ?_ ?_; (· exact hk))
    (apply CX.ps; (· apply PS.loadG (vs := cb D.sure[k]); (· rfl); (· rfl); (· exact CellsAt.own (by first | exact pickA | exact updA) (sure_at h hk)); (· exact hb.len)))
    (apply CX.storeAll; (· rfl); (· rfl); (· rfl); (· first | exact pickA | exact updA); (· exact hb.len); (· exact WB_z.len); (· exact one_cb _))
    refine wk ?_
    (refine CQ.shutL (disk_eq p D) (_, _, _, _) trivial (by exact selA) ?_)
    ((apply CQ.end2; (· rfl); (· exact .cells inferInstance rfl (CellsAt.all (by first | exact pickA | exact updA)) (hb.len)); (· exact .tmp rfl)); (· exact ⟨by simp [DS.sureAt, h0, hk], rfl⟩); (· exact selA))
  · refine wk ?_
    (apply CX.ps; (· apply PS.buildZ (vs := cb zblk); (· rfl); (· simp [cb_z, Value.cells])))
    refine wk ?_
    (apply CX.storeAll; (· rfl); (· rfl); (· rfl); (· first | exact pickA | exact updA); (· exact WB_z.len); (· exact WB_z.len); (· exact one_cb _))
    refine wk ?_
    ((apply CQ.end2; (· rfl); (· exact .cells inferInstance rfl (CellsAt.all (by first | exact pickA | exact updA)) (WB_z.len)); (· exact .tmp rfl)); (· exact ⟨by simp [DS.sureAt, h0], rfl⟩); (· exact selA))
theorem arm_c (p : Nat) (D : DS) (n : Int) : Ctr Tryz.prog 44 [.pointer (some ⟨p, 0, none⟩), .int .i64 n] [disk p D] (fun _ => True) (fun v M => v = .int .i64 (D.arm n).1 ∧ M = [disk p (D.arm n).2]) := by
  obtain ⟨S, l, left, steps, dark⟩ := D
  refine Ctr.intro Tryz.func44 rfl Tryz.ntmps44 rfl fun x w hp => ?_
  refine wk ?_
  refine CX.callA (lit_c p _ 0) ?_
  rintro _ _ ⟨rfl, rfl⟩
  by_cases h0 : DS.lit ⟨S, l, left, steps, dark⟩ 0 = 0
  · by_cases h1 : n < 0
    · refine wk ?_
      (apply CQ.end1; (· rfl); (· exact .tmp rfl))
      · exact ⟨by simp [DS.arm, h1, h0], rfl⟩
      · simp only [DS.arm, h1, h0, ne_eq, not_true, if_false, if_true]; exact selA
    · refine wk ?_
      (refine CX.openL (disk_eq p _) (by first | exact pickA | exact updA) ?_; rintro ⟨sb, sc, la, lc⟩ -)
      refine wk ?_
      (refine CQ.shutL (disk_eq p ⟨S, l, n, steps, dark⟩) (_, _, _, _) trivial (by exact selA) ?_)
      (apply CQ.end1; (· rfl); (· exact .tmp rfl))
      · exact ⟨by simp [DS.arm, h1, h0], rfl⟩
      · simp only [DS.arm, h1, h0, ne_eq, not_true, if_false, if_true]; exact selA
  · refine wk ?_
    (apply CQ.end1; (· rfl); (· exact .tmp rfl))
    · exact ⟨by simp [DS.arm, h0], rfl⟩
    · simp only [DS.arm, h0, ne_eq, not_false_eq_true, if_false, if_true]; exact selA
/-- A disk's parts. -/
abbrev DL (p : Nat) (D : DS) (sb sc : Nat) (la : Option Addr) (lc : Nat) : List Assn :=
    [bk p 61 [.slice (some ⟨sb, 0, none⟩) D.sure.length sc, .slice la D.loose.length lc, .int .i64 D.left, .int .i64 (D.steps : Int), .bool D.dark],
     own 32 128 (some ⟨sb, 0, none⟩) D.sure.length sc (flat D.sure), own 68 129 la D.loose.length lc (flatL D.loose)]
theorem read_c (p : Nat) (D : DS) (n : Int) {N : Nat} (h : D.wf N) (hN : N < 1000000) : Ctr Tryz.prog 73 [.pointer (some ⟨p, 0, none⟩), .int .i64 n] [disk p D] (fun _ => True) (fun v M => v = .tuple #[.agg (cb (D.read n).1).toArray, .int .i64 (D.read n).2] ∧ M = [disk p D]) := by
  have hlo := h.loose
  have hlb : ∀ p ∈ D.loose, WB p.2 := fun p hp => (h.lb p hp).2
  refine Ctr.intro Tryz.func73 rfl Tryz.ntmps73 rfl fun x w hp => ?_
  refine wk ?_
  (refine CX.allocZ (cb zblk) ?_; intro r)
  refine wk ?_
  refine CX.callA (lit_c p D n) ?_
  rintro _ _ ⟨rfl, rfl⟩
  by_cases h0 : D.lit n = 0
  · have h1 : D.there n = 0 := by unfold DS.lit at h0; split at h0; cases h0; exact h0
    obtain ⟨k, rfl, hk⟩ := there_ok h1
    have hb : WB D.sure[k] := h.wb _ (by simp)
    have hr : D.read k = (match lastOf D.loose k with | some p => p.2 | none => D.sure[k], 0) := by simp [DS.read, h0, DS.get, lastOf, hk]; rfl
    (refine CX.openL (disk_eq p _) (by first | exact pickA | exact updA) ?_; rintro ⟨sb, sc, la, lc⟩ -)
    refine wk ?_
    refine CC.loop (X := Nat) (fun m => [(7, .int .i64 ((m : Int) - 1)), (0, .pointer (some ⟨p, 0, none⟩)), (1, .int .i64 (k : Int)), (4, .pointer (some ⟨r, 0, none⟩))]) (fun _ => DL p D sb sc la lc ++ [bk r 32 (cb zblk), exact x])
      (fun m => m ≤ D.loose.length ∧ lastOf D.loose k = lastOf (D.loose.take m) k) (fun m => m) D.loose.length ⟨Nat.le_refl _, by simp⟩ ⟨rfl, rfl, rfl, rfl, trivial⟩ (by exact selA) ?_
    rintro (_ | j) ⟨hj, hg⟩
    · refine wk ?_
      (refine CX.indexA (k) ?_ ?_; (· exact hk))
      (apply CX.ps; (· apply PS.loadG (vs := cb D.sure[k]); (· rfl); (· rfl); (· exact CellsAt.own (by first | exact pickA | exact updA) (sure_at h hk)); (· exact hb.len)))
      (apply CX.storeAll; (· rfl); (· rfl); (· rfl); (· first | exact pickA | exact updA); (· exact hb.len); (· exact WB_z.len); (· exact one_cb _))
      refine wk ?_
      (refine CQ.shutL (disk_eq p D) (_, _, _, _) trivial (by exact selA) ?_)
      ((apply CQ.end2; (· rfl); (· exact .cells inferInstance rfl (CellsAt.all (by first | exact pickA | exact updA)) (hb.len)); (· exact .tmp rfl)); (· exact ⟨by rw [hr, hg]; simp [lastOf], rfl⟩); (· exact selA))
    · have hjl : j < D.loose.length := by omega
      rw [lastOf_succ _ _ _ hjl] at hg
      have hb' : WB D.loose[j].2 := hlb _ (by simp)
      refine wk ?_
      (refine CX.indexOA (j) ?_ ?_; (· exact hjl); rintro g rfl)
      refine wk ?_
      (apply CX.ps; (· apply PS.load (v := .int .i64 (D.loose[j].1 : Int)); (· rfl); (· rfl); (· exact CellAt.own (by first | exact pickA | exact updA) (flatL_n _ hlb j hjl))))
      by_cases he : D.loose[j].1 = k
      · have he' : (D.loose[j].1 : Int) = k := by omega
        refine wk ?_
        (refine CX.indexA (j) ?_ ?_; (· exact hjl))
        refine wk ?_
        (apply CX.ps; (· apply PS.loadG (vs := cb D.loose[j].2); (· rfl); (· rfl); (· exact CellsAt.own (by first | exact pickA | exact updA) (by rw [hb'.len, Nat.zero_add]; exact flatL_b _ hlb j hjl)); (· exact hb'.len)))
        (apply CX.storeAll; (· rfl); (· rfl); (· rfl); (· first | exact pickA | exact updA); (· exact hb'.len); (· exact WB_z.len); (· exact one_cb _))
        refine wk ?_
        (refine CQ.shutL (disk_eq p D) (_, _, _, _) trivial (by exact selA) ?_)
        ((apply CQ.end2; (· rfl); (· exact .cells inferInstance rfl (CellsAt.all (by first | exact pickA | exact updA)) (hb'.len)); (· exact .tmp rfl)); (· exact ⟨by rw [hr, hg]; simp [he], rfl⟩); (· exact selA))
      · have he' : ¬ (D.loose[j].1 : Int) = k := by omega
        refine wk ?_
        refine CQ.round j ⟨by omega, by rw [hg, if_neg he]⟩ (Nat.lt_succ_self _) ⟨eqI (by omega), rfl, rfl, rfl, trivial⟩ (by exact selA)
  · refine wk ?_
    (apply CX.ps; (· apply PS.buildZ (vs := cb zblk); (· rfl); (· simp [cb_z, Value.cells])))
    refine wk ?_
    (apply CX.storeAll; (· rfl); (· rfl); (· rfl); (· first | exact pickA | exact updA); (· exact WB_z.len); (· exact WB_z.len); (· exact one_cb _))
    refine wk ?_
    ((apply CQ.end2; (· rfl); (· exact .cells inferInstance rfl (CellsAt.all (by first | exact pickA | exact updA)) (WB_z.len)); (· exact .tmp rfl)); (· exact ⟨by simp [DS.read, h0], rfl⟩); (· exact selA))
theorem write_c (p : Nat) (D : DS) (n : Int) (b : Blk) (hb : WB b) {N : Nat} (h : D.wf N) (hN : N < 1000000) : Ctr Tryz.prog 7 [.pointer (some ⟨p, 0, none⟩), .int .i64 n, .agg (cb b).toArray] [disk p D] (fun _ => True) (fun v M => v = .int .i64 (D.write n b).1 ∧ M = [disk p (D.write n b).2]) := by
  have hlo := h.loose
  refine Ctr.intro Tryz.func7 rfl Tryz.ntmps7 rfl fun x w hp => ?_
  refine wk ?_
  (refine CX.boxA ?_; intro c)
  refine wk ?_
  refine CX.callA (lit_c p D n) ?_
  rintro _ _ ⟨rfl, rfl⟩
  by_cases h0 : D.lit n = 0
  · have h1 : D.there n = 0 := by unfold DS.lit at h0; split at h0; cases h0; exact h0
    obtain ⟨k, rfl, hk⟩ := there_ok h1
    refine wk ?_
    refine CX.callA (step_c p D h hN) ?_
    rintro _ _ ⟨rfl, rfl⟩
    by_cases h2 : D.step.1 = 0
    · have e : D.write k b = (0, { D.step.2 with loose := D.step.2.loose ++ [(k, b)] }) := by simp [DS.write, h0, h2]
      have hlo' : D.step.2.loose.length ≤ N := by unfold DS.step; split <;> exact hlo
      refine wk ?_
      rw [e, h2]
      generalize D.step.2 = D' at hlo' ⊢
      (refine CC.openL (disk_eq p _) (by first | exact pickA | exact updA) ?_; rintro ⟨sb, sc, la, lc⟩ -)
      refine CC.draw [(0, 0), (1, 0), (2, 0), (3, 0), (4, 1), (5, 0), (6, 1), (7, 0), (8, 2), (9, 2), (10, 0), (11, 0), (12, 3)] mixed rfl (by kernel_rfl) (by kernel_rfl) [bk p 61 [.slice (some ⟨sb, 0, none⟩) D'.sure.length sc, .slice la D'.loose.length lc, .int .i64 D'.left, .int .i64 (D'.steps : Int), .bool D'.dark], bk c 32 (cb b)] ?_
      refine hwk ?_
      (apply CH.read; (· rfl); (· apply PS.loadG (vs := cb b); (· rfl); (· rfl); (· exact CellsAt.all (by first | exact pickA | exact updA)); (· exact hb.len)); (· exact selA))
      (apply CH.pure; (· rfl); (· apply PS.build (vs := [(0, .int .i64 (k : Int)), (1, .agg (cb b).toArray)]); (· rfl); (· rfl); (· exact fill_put k b hb)))
      refine CH.chain rfl fun K hK => ?_
      apply CX.buildSl (vs := [(0, .agg (pc (k, b)).toArray)])
      · rfl
      · rfl
      · decide
      · exact fill_one (length_pc hb) (by simp)
      intro q
      (refine CX.nil ?_; refine CQ.thenK ?_; apply hK; (· exact selA); clear hK K)
      refine CH.chain rfl fun K hK => ?_
      apply CX.append (m := 1) (news := pc (k, b))
      · rfl
      · rfl
      · rfl
      · first | exact pickA | exact updA
      · exact RdS.pick (by first | exact pickA | exact updA) (length_pc hb) (one_pc _) (by rw [List.drop_zero, List.take_of_length_le (by rw [length_pc hb]; omega)])
      · omega
      · intro hh; cases hh
      intro la' lc'
      (refine CX.nil ?_; refine CQ.thenK ?_; apply hK; (· exact selA); clear hK K)
      refine hwk ?_
      refine CH.tail rfl rfl fun K hK => ?_
      refine CX.storeA ?_
      (refine CX.nil ?_; refine CQ.thenK ?_; apply hK; clear hK K)
      refine hwk ?_
      refine wk ?_
      have e5 : D'.loose.length + 1 = (D'.loose ++ [(k, b)]).length := by simp
      have e6 : flatL D'.loose ++ pc (k, b) = flatL (D'.loose ++ [(k, b)]) := by simp [flatL, rows]
      rw [e5, e6]
      (refine CQ.shutL (disk_eq p ({ D' with loose := D'.loose ++ [(k, b)] })) (sb, sc, la', lc') trivial (by exact selA) ?_)
      ((apply CQ.end1; (· rfl); (· exact .tmp rfl)); (· exact ⟨rfl, rfl⟩); (· exact selA))
    · have e : D.write k b = D.step := by simp [DS.write, h0, h2]
      refine wk ?_
      rw [e]
      ((apply CQ.end1; (· rfl); (· exact .tmp rfl)); (· exact ⟨rfl, rfl⟩); (· exact selA))
  · have e : D.write n b = (D.lit n, D) := by simp [DS.write, h0]
    refine wk ?_
    rw [e]
    ((apply CQ.end1; (· rfl); (· exact .tmp rfl)); (· exact ⟨rfl, rfl⟩); (· exact selA))
theorem settle_c (p : Nat) (D : DS) (picks : List Int) (a : Option Addr) (c : Nat) (others : Int) (ho : 0 ≤ others ∧ others ≤ 128) {N : Nat} (h : D.wf N) (hN : N < 1000000) : Ctr Tryz.prog 48 [.pointer (some ⟨p, 0, none⟩), .slice a picks.length c, .int .i64 others] [disk p D] (rdx a picks.length (picks.map (Value.int .i64))) (fun v M => v = .tuple #[] ∧ M = [disk p (D.settle picks others.toNat)]) := by
  have hlo := h.loose
  have hlb : ∀ p ∈ D.loose, WB p.2 := fun p hp => (h.lb p hp).2
  refine Ctr.intro Tryz.func48 rfl Tryz.ntmps48 rfl fun x w hp => ?_
  (refine CC.openL (disk_eq p _) (by first | exact pickA | exact updA) ?_; rintro ⟨sb, sc, la, lc⟩ -)
  refine wk ?_
  refine CC.loop (X := Nat) (fun i => [(14, .int .i64 (i : Int)), (13, .int .i64 (D.loose.length : Int)), (12, .slice la D.loose.length lc), (0, .pointer (some ⟨p, 0, none⟩)), (1, .slice a picks.length c), (2, .int .i64 others)])
    (fun i => [bk p 61 [.slice (some ⟨sb, 0, none⟩) D.sure.length sc, .slice la D.loose.length lc, .int .i64 D.left, .int .i64 (D.steps : Int), .bool D.dark],
      own 32 128 (some ⟨sb, 0, none⟩) D.sure.length sc (flat (settleL D.sure picks others.toNat 0 (D.loose.take i))), own 68 129 la D.loose.length lc (flatL D.loose), exact x])
    (fun i => i ≤ D.loose.length) (fun i => D.loose.length - i) 0 (Nat.zero_le _) ⟨rfl, rfl, rfl, rfl, rfl, rfl, trivial⟩ (by exact selA) ?_
  intro i hi
  by_cases hlt : i < D.loose.length
  · have hw := hlb D.loose[i] (by simp)
    have hin := (h.lb D.loose[i] (by simp)).1
    have hSl : ∀ l, (settleL D.sure picks others.toNat 0 l).length = D.sure.length := fun l => length_settleL _ _ _ _ _
    have hSw := settleL_WB picks others.toNat (D.loose.take i) D.sure 0 h.wb (fun q hq => h.lb q (List.mem_of_mem_take hq))
    have hsnoc : settleL D.sure picks others.toNat 0 (D.loose.take (i + 1)) = (settleL D.sure picks others.toNat 0 (D.loose.take i)).set D.loose[i].1 (torn ((settleL D.sure picks others.toNat 0 (D.loose.take i)).getD D.loose[i].1 []) D.loose[i].2 (pickAt picks others.toNat i)) := by
      rw [List.take_succ_eq_append_getElem hlt, settleL_snoc, List.length_take, Nat.zero_add, Nat.min_eq_left hi]
    refine wk ?_
    (refine CX.indexOA (i) ?_ ?_; (· exact hlt); rintro g rfl)
    (apply CX.ps; (· apply PS.loadG (vs := pc D.loose[i]); (· rfl); (· rfl); (· exact CellsAt.own (by first | exact pickA | exact updA) (by rw [length_pc hw]; exact flatL_p _ hlb i hlt)); (· exact length_pc hw)))
    (apply CX.allocAs (pc (0, zblk)) (by simp [pc, cb_z, Value.cells]); (· rfl); intro r)
    refine wk ?_
    (apply CX.storeAll; (· rfl); (· rfl); (· rfl); (· first | exact pickA | exact updA); (· exact length_pc hw); (· exact length_pc WB_z); (· exact one_pc _))
    refine wk ?_
    refine CC.join (X := Unit) (fun _ => [(8, .int .i64 (pickAt picks others.toNat i : Int)), (7, .pointer (some ⟨r, 0, none⟩)), (14, .int .i64 (i : Int)), (13, .int .i64 (D.loose.length : Int)), (12, .slice (some ⟨g, 0, none⟩) D.loose.length lc), (0, .pointer (some ⟨p, 0, none⟩)), (1, .slice a picks.length c), (2, .int .i64 others)])
      (fun _ => [bk r 68 (pc D.loose[i]), bk p 61 [.slice (some ⟨sb, 0, none⟩) D.sure.length sc, .slice (some ⟨g, 0, none⟩) D.loose.length lc, .int .i64 D.left, .int .i64 (D.steps : Int), .bool D.dark],
      own 32 128 (some ⟨sb, 0, none⟩) D.sure.length sc (flat (settleL D.sure picks others.toNat 0 (D.loose.take i))), own 68 129 (some ⟨g, 0, none⟩) D.loose.length lc (flatL D.loose), exact x]) (fun _ => True) ?_ ?_
    · by_cases hpk : i < picks.length
      · rcases hp with h0 | ⟨pg, off, cs, pt, fr, rfl, hx, hcs⟩
        · omega
        have hz : picks[i]? = some picks[i] := by simp [hpk]
        refine wk ?_
        (refine CX.indexA (i) ?_ ?_; (· exact hpk))
        (apply CX.ps; (· apply PS.load (v := .int .i64 picks[i]); (· rfl); (· rfl); (· exact CellAt.exact (by first | exact pickA | exact updA) ⟨cs, pt, fr, hx, by rw [Nat.mul_one]; exact hcs i _ (by simp [hpk])⟩)))
        refine wk ?_
        refine CQ.joined () trivial ⟨eqI (by simp only [pickAt, hz]; omega), rfl, rfl, rfl, rfl, rfl, rfl, rfl, trivial⟩ (by exact selA)
      · have hz : picks[i]? = none := by simp; omega
        refine wk ?_
        refine CQ.joined () trivial ⟨eqI (by simp only [pickAt, hz]; omega), rfl, rfl, rfl, rfl, rfl, rfl, rfl, trivial⟩ (by exact selA)
    · rintro _ -
      generalize hm : pickAt picks others.toNat i = m
      have hm' : m ≤ 128 := by subst hm; simp only [pickAt]; split <;> omega
      generalize hSS : settleL D.sure picks others.toNat 0 (D.loose.take i) = SS at *
      have hSl' : SS.length = D.sure.length := by rw [← hSS]; exact hSl _
      refine CC.draw [(0, 0), (1, 0), (2, 0), (3, 1), (4, 0), (5, 1), (6, 0), (7, 0), (8, 0), (9, 0), (10, 0), (11, 0), (12, 2)] mixed rfl (by kernel_rfl) (by kernel_rfl) [bk r 68 (pc D.loose[i]), bk p 61 [.slice (some ⟨sb, 0, none⟩) D.sure.length sc, .slice (some ⟨g, 0, none⟩) D.loose.length lc, .int .i64 D.left, .int .i64 (D.steps : Int), .bool D.dark]] ?_
      refine hwk ?_
      (apply CH.pure; (· rfl); (· apply PS.indexAddr (j := D.loose[i].1); (· rfl); (· rfl); (· rfl); (· rfl); (· exact hin)))
      refine hwk ?_
      (apply CH.pure; (· rfl); (· apply PS.sliceArrHi (h := m); (· rfl); (· rfl); (· rfl); (· rfl); (· exact hm')))
      refine hwk ?_
      (apply CH.pure; (· rfl); (· apply PS.sliceArrHi (h := m); (· rfl); (· rfl); (· rfl); (· rfl); (· exact hm')))
      refine CH.chain rfl fun K hK => ?_
      apply CX.copyOwn (m := m) (news := cb (D.loose[i].2.take m))
      · rfl
      · rfl
      · rfl
      · exact RdS.pick (by first | exact pickA | exact updA) (by rw [length_cb, List.length_take, hw]; omega) (one_cb _) (by simp only [pc, List.drop_succ_cons, List.drop_zero, cb_take])
      · first | exact pickA | exact updA
      · simp
      · omega
      (refine CX.nil ?_; refine CQ.thenK ?_; apply hK; (· exact selA); clear hK K)
      refine hwk ?_
      have e1 : setL (flat SS) (0 + D.loose[i].1 * 128) (List.take m (cb (List.take m D.loose[i].2))) = flat (settleL D.sure picks others.toNat 0 (D.loose.take (i + 1))) := by
        rw [Nat.zero_add, List.take_of_length_le (by simp; omega), flat_set hSw (by omega) _ m hm' hw, hsnoc, hm]
      rw [e1]
      clear e1 hsnoc hSS hSw hm
      refine wk ?_
      exact CQ.round (i + 1) hlt (by omega) ⟨eqI (by omega), rfl, rfl, rfl, rfl, rfl, trivial⟩ (by exact selA)
  · obtain rfl : i = D.loose.length := by omega
    refine wk ?_
    refine CQ.ownNil 68 129 ?_
    have e : D.sure.length = (D.settle picks others.toNat).sure.length := by simp [DS.settle, length_settleL]
    rw [e, List.take_length]
    (refine CQ.shutL (disk_eq p (D.settle picks others.toNat)) (_, _, _, _) trivial (by exact selA) ?_)
    apply CQ.end0
    · rfl
    · exact ⟨rfl, rfl⟩
    · exact selA
theorem flush_c (p : Nat) (D : DS) {N : Nat} (h : D.wf N) (hN : N < 999999) : Ctr Tryz.prog 83 [.pointer (some ⟨p, 0, none⟩)] [disk p D] (fun _ => True) (fun v M => v = .int .i64 D.flush.1 ∧ M = [disk p D.flush.2]) := by
  refine Ctr.intro Tryz.func83 rfl Tryz.ntmps83 rfl fun x w hp => ?_
  refine wk ?_
  refine CX.callA (lit_c p D 0) ?_
  rintro _ _ ⟨rfl, rfl⟩
  by_cases h0 : D.lit 0 = 0
  · refine wk ?_
    refine CX.callA (step_c p D h (by omega)) ?_
    rintro _ _ ⟨rfl, rfl⟩
    by_cases h2 : D.step.1 = 0
    · have e : D.flush = (0, D.step.2.settle [] 128) := by simp [DS.flush, h0, h2]
      refine wk ?_
      (apply CX.call (S := settle_c p D.step.2 [] none 0 128 (by omega) (N := N + 1) (step_wf h) (by omega)) (hpre := fun _ _ => .inl rfl); (· rfl); (· rfl); (· exact selA))
      rintro _ _ ⟨rfl, rfl⟩
      refine wk ?_
      rw [e]
      ((apply CQ.end1; (· rfl); (· exact .tmp rfl)); (· exact ⟨by rw [h2], rfl⟩); (· exact selA))
    · have e : D.flush = D.step := by simp [DS.flush, h0, h2]
      refine wk ?_
      rw [e]
      ((apply CQ.end1; (· rfl); (· exact .tmp rfl)); (· exact ⟨rfl, rfl⟩); (· exact selA))
  · have e : D.flush = (D.lit 0, D) := by simp [DS.flush, h0]
    refine wk ?_
    rw [e]
    ((apply CQ.end1; (· rfl); (· exact .tmp rfl)); (· exact ⟨rfl, rfl⟩); (· exact selA))
theorem new_c (n : Int) : Ctr Tryz.prog 5 [.int .i64 n] [] (fun _ => True) (fun v M => (64 ≤ n ∧ n ≤ 4096 ∧ ∃ p, v = .tuple #[.pointer (some ⟨p, 0, none⟩), .int .i64 0] ∧ M = [disk p (DS.new n.toNat)]) ∨ (¬(64 ≤ n ∧ n ≤ 4096) ∧ v = .tuple #[.pointer none, .int .i64 2] ∧ M = [])) := by
  refine Ctr.intro Tryz.func5 rfl Tryz.ntmps5 rfl fun x w hp => ?_
  by_cases h1 : n < 64
  · refine wk ?_
    (apply CQ.end2; (· rfl); (· exact .tmp rfl); (· exact .tmp rfl))
    · exact .inr ⟨by omega, rfl, rfl⟩
    · exact selA
  by_cases h2 : 4096 < n
  · refine wk ?_
    (apply CQ.end2; (· rfl); (· exact .tmp rfl); (· exact .tmp rfl))
    · exact .inr ⟨by omega, rfl, rfl⟩
    · exact selA
  obtain ⟨k, rfl⟩ : ∃ k : Nat, n = k := ⟨n.toNat, by omega⟩
  refine wk ?_
  (apply CX.makeSl (l := k); (· rfl); (· rfl); (· rfl); (· rfl); (· omega); intro sb)
  (apply CX.ps; (· apply PS.build (vs := [(0, .slice (some ⟨sb, 0, none⟩) k k)]); (· rfl); (· rfl); (· rfl)))
  (refine CX.boxA ?_; intro p)
  refine wk ?_
  refine CQ.ownNil 68 129 ?_
  have e : (madeCells (List.replicate 128 (Value.int .u8 0)).toArray (k * 128)).toList = flat (List.replicate k zblk) := by rw [made_rep _ _ _ (by omega), flat_zs]
  have e2 : k = (DS.new k).sure.length := by simp [DS.new]
  have e3 : (fun l => flat (List.replicate l zblk)) k = flat (DS.new k).sure := rfl
  apply CQ.mem (L' := DL p (DS.new k) sb k none 0 ++ [exact x])
  · intro h hs
    have hs' : Sep ([own 68 129 none 0 0 [], bk p 61 [.slice (some ⟨sb, 0, none⟩) k k, .slice none 0 0, .int .i64 0, .int .i64 0, .bool false], own 32 128 (some ⟨sb, 0, none⟩) k k (madeCells (List.replicate 128 (Value.int .u8 0)).toArray (k * 128)).toList, exact x]) h := hs
    rw [e] at hs'
    have : Sel [own 68 129 none 0 0 [], bk p 61 [.slice (some ⟨sb, 0, none⟩) k k, .slice none 0 0, .int .i64 0, .int .i64 0, .bool false], own 32 128 (some ⟨sb, 0, none⟩) k k (flat (List.replicate k zblk)), exact x] (DL p (DS.new k) sb k none 0 ++ [exact x]) [] := by
      simp only [DL, DS.new, List.length_replicate]
      exact selA
    exact (this.sep hs').left
  (refine CQ.shutL (disk_eq p (DS.new k)) (_, _, _, _) trivial (by exact selA) ?_)
  (apply CQ.end2; (· rfl); (· exact .tmp rfl); (· exact .tmp rfl))
  · exact .inl ⟨by omega, by omega, p, rfl, rfl⟩
  · exact selA
theorem crash_c (p : Nat) (D : DS) (picks : List Int) (a : Option Addr) (c : Nat) {N : Nat} (h : D.wf N) (hN : N < 1000000) : Ctr Tryz.prog 18 [.pointer (some ⟨p, 0, none⟩), .slice a picks.length c] [disk p D] (rdx a picks.length (picks.map (Value.int .i64))) (fun v M => v = .int .i64 0 ∧ M = [disk p (D.crash picks)]) := by
  refine Ctr.intro Tryz.func18 rfl Tryz.ntmps18 rfl fun x w hp => ?_
  refine wk ?_
  refine CX.callA (none_c p D) ?_
  rintro _ _ ⟨rfl, rfl⟩
  refine wk ?_
  refine CX.callA (settle_c p D picks a c 0 (by omega) h hN) ?_ (hpre := by exact fun y hy => rdx_mono hp (Pick.ok (show Pick (exact x) _ _ from by first | exact pickA | exact updA) hy))
  rintro _ _ ⟨rfl, rfl⟩
  refine wk ?_
  (refine CX.openL (disk_eq p _) (by first | exact pickA | exact updA) ?_; rintro ⟨sb, sc, la, lc⟩ -)
  refine wk ?_
  (refine CQ.shutL (disk_eq p (D.crash picks)) (_, _, _, _) trivial (by exact selA) ?_)
  ((apply CQ.end1; (· rfl); (· exact .tmp rfl)); (· exact ⟨rfl, rfl⟩); (· exact selA))
end Go.Proofs.YtlckhaodecdbbaaGreat
/-! The disk's Rot and Copy. -/
namespace Go.Proofs.YtlckhaodecdbbaaGreat
open Go.Cx
attribute [local irreducible] Go.Cx.CX Go.Cx.CC Go.Cx.CQ Go.Cx.PS Go.Cx.Ctr Go.Cx.CH
set_option maxRecDepth 10000

theorem cb_set (b : Blk) (q : Nat) (c : UInt8) (hq : q < b.length) : cb (b.set q c) = setL (cb b) q [.int .u8 (c.toNat : Int)] := by
  rw [setL_one _ _ _ (by rw [length_cb]; exact hq)]
  simp [cb, ib, List.map_set]
theorem flat_set1 {S : List Blk} (h : ∀ b ∈ S, WB b) {k : Nat} (hk : k < S.length) {q : Nat} (hq : q < 128) (c : UInt8) : setL (flat S) (k * 128 + q) [.int .u8 (c.toNat : Int)] = flat (S.set k ((S.getD k []).set q c)) := by
  have hg : S.getD k [] = S[k] := by simp [hk]
  have hw := h S[k] (by simp)
  rw [hg]
  exact rows_set cb 128 S (fun x hx => (h x hx).len) k hk q [.int .u8 (c.toNat : Int)] (S[k].set q c) (by simp; omega) (cb_set _ _ _ (by rw [hw]; exact hq))
theorem rot_c (p : Nat) (D : DS) (n at_ : Int) (y : UInt8) {N : Nat} (h : D.wf N) (hN : N < 1000000) : Ctr Tryz.prog 46 [.pointer (some ⟨p, 0, none⟩), .int .i64 n, .int .i64 at_, .int .u8 y.toNat] [disk p D] (fun _ => True) (fun v M => v = .int .i64 (D.rot n at_ y).1 ∧ M = [disk p (D.rot n at_ y).2]) := by
  refine Ctr.intro Tryz.func46 rfl Tryz.ntmps46 rfl fun x w hp => ?_
  refine wk ?_
  refine CX.callA (there_c p D n) ?_
  rintro _ _ ⟨rfl, rfl⟩
  by_cases h0 : D.there n = 0
  · obtain ⟨k, rfl, hk⟩ := there_ok h0
    by_cases h1 : at_ < 0
    · have e : D.rot k at_ y = (2, D) := by simp [DS.rot, h0, h1]
      refine wk ?_
      rw [e]
      ((apply CQ.end1; (· rfl); (· exact .tmp rfl)); (· exact ⟨rfl, rfl⟩); (· exact selA))
    by_cases h2 : 128 ≤ at_
    · have e : D.rot k at_ y = (2, D) := by simp [DS.rot, h0, h2]
      refine wk ?_
      rw [e]
      ((apply CQ.end1; (· rfl); (· exact .tmp rfl)); (· exact ⟨rfl, rfl⟩); (· exact selA))
    · obtain ⟨q, rfl⟩ : ∃ q : Nat, at_ = q := ⟨at_.toNat, by omega⟩
      have e : D.rot k q y = (0, { D with sure := D.sure.set k ((D.sure.getD k []).set q ((D.sure.getD k []).getD q 0 ^^^ y)) }) := by simp [DS.rot, h0, h1, h2]
      refine wk ?_
      (refine CC.openL (disk_eq p _) (by first | exact pickA | exact updA) ?_; rintro ⟨sb, sc, la, lc⟩ -)
      refine CC.draw [(0, 0), (1, 0), (2, 0), (3, 1), (4, 0), (5, 0), (6, 0), (7, 0), (8, 1), (9, 0), (10, 0), (11, 0), (12, 0), (13, 3)] mixed rfl (by kernel_rfl) (by kernel_rfl) [bk p 61 [.slice (some ⟨sb, 0, none⟩) D.sure.length sc, .slice la D.loose.length lc, .int .i64 D.left, .int .i64 (D.steps : Int), .bool D.dark], own 32 128 (some ⟨sb, 0, none⟩) D.sure.length sc (flat D.sure)] ?_
      refine hwk ?_
      have hb : WB D.sure[k] := h.wb _ (by simp)
      have hq : q < 128 := by omega
      have hg : D.sure.getD k [] = D.sure[k] := by simp [hk]
      have hgq : (D.sure[k] : Blk).getD q 0 = D.sure[k][q]'(by rw [hb]; exact hq) := by simp [show q < (D.sure[k] : Blk).length by rw [hb]; exact hq]
      have hv : (flat D.sure)[0 + k * 128 + q * 1]? = some (.int .u8 (((D.sure[k] : Blk).getD q 0).toNat : Int)) := by
        have := rows_at cb 128 D.sure (fun x hx => (h.wb x hx).len) k hk q hq
        rw [Nat.zero_add, Nat.mul_one, flat, this, hgq, cb_get _ _ (by rw [hb]; exact hq)]
      rw [hg] at e
      have e1 := flat_set1 h.wb hk hq ((D.sure[k] : Blk).getD q 0 ^^^ y)
      rw [hg] at e1
      generalize (D.sure[k] : Blk).getD q 0 = old at hv e e1
      (apply CH.pure; (· rfl); (· apply PS.indexAddr (j := k); (· rfl); (· rfl); (· rfl); (· rfl); (· exact hk)))
      (apply CH.pure; (· rfl); (· apply PS.indexArr (j := q); (· rfl); (· rfl); (· rfl); (· rfl); (· exact hq)))
      (apply CH.read; (· rfl); (· apply PS.load (v := .int .u8 (old.toNat : Int)); (· rfl); (· rfl); (· exact CellAt.own (by first | exact pickA | exact updA) hv)); (· exact selA))
      refine hwk ?_
      (apply CH.pure; (· rfl); (· apply PS.xorN (k := .u8) old.toNat y.toNat rfl (UInt8.toNat_lt old) (UInt8.toNat_lt y) <;> rfl))
      (apply CH.pure; (· rfl); (· apply PS.indexAddr (j := k); (· rfl); (· rfl); (· rfl); (· rfl); (· exact hk)))
      (apply CH.pure; (· rfl); (· apply PS.indexArr (j := q); (· rfl); (· rfl); (· rfl); (· rfl); (· exact hq)))
      refine CH.tail rfl rfl fun K hK => ?_
      apply CX.storeOwn (v := .int .u8 ((old ^^^ y).toNat : Int))
      · rfl
      · rfl
      · rw [UInt8.toNat_xor]; rfl
      · rfl
      · intro u hu; simp [Value.cells] at hu; rw [hu]; rfl
      · first | exact pickA | exact updA
      · omega
      (refine CX.nil ?_; refine CQ.thenK ?_; apply hK; clear hK K)
      refine hwk ?_
      refine wk ?_
      have e2 : setL (flat D.sure) (0 + k * 128 + q * 1) (Value.int .u8 ((old ^^^ y).toNat : Int)).cells.toList = flat (D.sure.set k (List.set (D.sure[k] : Blk) q (old ^^^ y))) := by
        rw [Nat.zero_add, Nat.mul_one]; exact e1
      have e3 : D.sure.length = (D.sure.set k (List.set (D.sure[k] : Blk) q (old ^^^ y))).length := by simp
      rw [e2, e, e3]
      (refine CQ.shutL (disk_eq p ({ D with sure := D.sure.set k (List.set (D.sure[k] : Blk) q (old ^^^ y)) })) (sb, sc, la, lc) trivial (by exact selA) ?_)
      ((apply CQ.end1; (· rfl); (· exact .tmp rfl)); (· exact ⟨rfl, rfl⟩); (· exact selA))
  · have e : D.rot n at_ y = (D.there n, D) := by simp [DS.rot, h0]
    refine wk ?_
    rw [e]
    ((apply CQ.end1; (· rfl); (· exact .tmp rfl)); (· exact ⟨rfl, rfl⟩); (· exact selA))
end Go.Proofs.YtlckhaodecdbbaaGreat
/-! What the statements of layer 4 do, step by step. -/
namespace Go.Proofs.YtlckhaodecdbbaaGreat
open Go.Cx
attribute [local irreducible] Go.Cx.CX Go.Cx.CC Go.Cx.CQ Go.Cx.PS Go.Cx.Ctr Go.Cx.CH
set_option maxRecDepth 10000

def B1 : Blk := [17, 17, 17, 17] ++ List.replicate 124 0
def B2 : Blk := [17, 17, 17] ++ List.replicate 125 0
theorem B1_WB : WB B1 := by simp [WB, B1]
theorem B2_WB : WB B2 := by simp [WB, B2]
abbrev z64 : List Blk := List.replicate 64 zblk
def E1 : DS := ⟨z64, [], 2, 0, false⟩
def E2 : DS := ⟨z64, [(0, B1)], 1, 1, false⟩
def E3 : DS := ⟨z64, [(0, B1)], 1, 1, true⟩
def E4 : DS := ⟨B2 :: List.replicate 63 zblk, [], 0, 1, false⟩
theorem new_wf {k : Nat} (h1 : 64 ≤ k) (h2 : k ≤ 4096) : (DS.new k).wf 0 :=
  ⟨by simpa [DS.new] using h1, by simpa [DS.new] using h2, by simp [DS.new]; intro _; exact WB_z, by simp [DS.new], by simp [DS.new], by simp [DS.new], by simp [DS.new], by simp [DS.new]⟩
theorem e1 : (DS.new 64).arm 2 = (0, E1) := by kernel_rfl
theorem e2 : E1.write 0 B1 = (0, E2) := by kernel_rfl
theorem e3 : E2.flush = (9, E3) := by kernel_rfl
theorem e4 : E3.read 0 = (zblk, 9) := by kernel_rfl
theorem e5 : E3.crash [3] = E4 := by kernel_rfl
theorem e6 : E4.read 0 = (B2, 0) := by kernel_rfl
theorem e7 : E4.write 64 zblk = (2, E4) := by kernel_rfl
theorem wf1 : E1.wf 5 := ⟨by simp [E1], by simp [E1], by simp [E1]; exact WB_z, by simp [E1], by simp [E1], by simp [E1], by simp [E1], by simp [E1]⟩
theorem wf2 : E2.wf 5 := ⟨by simp [E2], by simp [E2], by simp [E2]; exact WB_z, by simp [E2]; exact B1_WB, by simp [E2], by simp [E2], by simp [E2], by simp [E2]⟩
theorem wf3 : E3.wf 5 := ⟨by simp [E3], by simp [E3], by simp [E3]; exact WB_z, by simp [E3]; exact B1_WB, by simp [E3], by simp [E3], by simp [E3], by simp [E3]⟩
theorem wf4 : E4.wf 5 := ⟨by simp [E4], by simp [E4], by simp [E4]; exact ⟨B2_WB, WB_z⟩, by simp [E4], by simp [E4], by simp [E4], by simp [E4], by simp [E4]⟩
/-- A put of the statements: its cells. -/
def pu (p : Nat × Blk) : List Value := .int .u8 (p.1 : Int) :: cb p.2
theorem length_pu {p : Nat × Blk} (h : WB p.2) : (pu p).length = 129 := by simp [pu, WB] at *; exact h
theorem puts_at {l : List (Nat × Blk)} (hl : ∀ p ∈ l, p.1 < 256 ∧ WB p.2) {a : Option Addr} {x : PH} (h : rdx a (l.length * 129) (rows pu l) x) (i : Nat) (hi : i < l.length) :
    ∃ g off cs t fr, a = some ⟨g, off, none⟩ ∧ x g = some (.cells cs t fr) ∧ cs[off + i * 129]? = some (.int .u8 (l[i].1 : Int)) ∧ ∀ j v, (cb l[i].2)[j]? = some v → cs[off + i * 129 + 1 + j]? = some v := by
  have hlen : ∀ p ∈ l, (pu p).length = 129 := fun p hp => length_pu (hl p hp).2
  rcases h with h0 | ⟨g, off, cs, t, fr, e1, e2, e3⟩
  · omega
  refine ⟨g, off, cs, t, fr, e1, e2, ?_, fun j v hj => ?_⟩
  · have := rows_at pu 129 l hlen i hi 0 (by omega)
    exact e3 _ _ (by rw [Nat.add_zero] at this; rw [this]; rfl)
  · have hjl : j < 128 := by
      have := (List.getElem?_eq_some_iff.1 hj).1
      rw [WB.len (hl l[i] (by simp)).2] at this; exact this
    have := rows_at pu 129 l hlen i hi (j + 1) (by omega)
    have h2 := e3 (i * 129 + (j + 1)) v (by rw [this]; exact hj)
    rw [show off + i * 129 + 1 + j = off + (i * 129 + (j + 1)) by omega]; exact h2
theorem arm_new (K : Nat) : (DS.new 64).arm (K : Int) = (0, { DS.new 64 with left := K }) := by
  have : (DS.new 64).lit 0 = 0 := by kernel_rfl
  simp only [DS.arm, this, ne_eq, not_true, if_false]
  rw [if_neg (by omega)]
/-- A disk that was armed, i steps later. -/
structure J (K i : Nat) (D : DS) : Prop where
  wf : D.wf i
  len : D.sure.length = 64
  lit : i < K ∨ K = 0 → D.dark = false ∧ D.steps = i ∧ D.left = ((K - i : Nat) : Int)
  drk : 0 < K → K ≤ i → D.dark = true ∧ D.steps = K - 1
theorem wf_mono {D : DS} {N M : Nat} (h : D.wf N) (l : N ≤ M) : D.wf M := ⟨h.lo, h.hi, h.wb, h.lb, h.left0, h.left1, Nat.le_trans h.steps l, Nat.le_trans h.loose l⟩
theorem J_new {K : Nat} (hK : K < 64) : J K 0 { DS.new 64 with left := (K : Int) } := by
  have h := new_wf (k := 64) (by omega) (by omega)
  refine ⟨⟨h.lo, h.hi, h.wb, h.lb, by simp, by simp; omega, h.steps, h.loose⟩, by simp [DS.new], fun _ => ⟨rfl, rfl, rfl⟩, fun h1 h2 => by omega⟩
/-- A step of it. -/
theorem J_step {K i : Nat} {D : DS} (h : J K i D) (n : Nat) (hn : n < 64) :
    (0 < K ∧ K ≤ i ∧ D.lit n = 9 ∧ J K (i + 1) D) ∨ (D.lit n = 0 ∧ 0 < K ∧ K = i + 1 ∧ D.step.1 = 9 ∧ J K (i + 1) D.step.2) ∨ (D.lit n = 0 ∧ (i + 1 < K ∨ K = 0) ∧ D.step.1 = 0 ∧ D.step.2.wf (i + 1) ∧ D.step.2.loose = D.loose ∧ D.step.2.sure = D.sure ∧ J K (i + 1) D.step.2) := by
  have hlen := h.len
  by_cases hd : 0 < K ∧ K ≤ i
  · obtain ⟨h1, h2⟩ := h.drk hd.1 hd.2
    exact .inl ⟨hd.1, hd.2, by simp [DS.lit, h1], wf_mono h.wf (by omega), hlen, fun hh => by omega, fun _ _ => ⟨h1, h2⟩⟩
  · obtain ⟨h1, h2, h3⟩ := h.lit (by omega)
    have hl : D.lit n = 0 := by simp [DS.lit, h1, DS.there, errOf, hlen]; omega
    have hw := step_wf h.wf
    by_cases h4 : K = i + 1
    · have e : D.step = (9, { D with dark := true }) := by simp [DS.step, h3, h4]
      rw [e] at hw ⊢
      exact .inr (.inl ⟨hl, by omega, h4, rfl, hw, hlen, fun hh => by omega, fun _ _ => ⟨rfl, by simp; omega⟩⟩)
    · have e : D.step = (0, { D with left := max (D.left - 1) 0, steps := D.steps + 1 }) := by
        have : ¬ D.left = 1 := by omega
        simp [DS.step, this]
      rw [e] at hw ⊢
      exact .inr (.inr ⟨hl, by omega, rfl, hw, rfl, rfl, hw, hlen, fun hh => ⟨h1, by simp [h2], by simp; omega⟩, fun _ _ => by omega⟩)
theorem J_flush {K i : Nat} {D : DS} (h : J K i D) : D.flush.1 = (if 0 < K ∧ K ≤ i + 1 then 9 else 0) ∧ J K (i + 1) D.flush.2 := by
  rcases J_step h 0 (by omega) with ⟨h1, h2, h3, h4⟩ | ⟨h1, h2, h3, h4, h5⟩ | ⟨h1, h2, h3, h4, h5, h6, h7⟩
  · have : D.flush = (9, D) := by simp only [Int.ofNat_zero] at h3; simp [DS.flush, h3]
    rw [this, if_pos (by omega)]; exact ⟨rfl, h4⟩
  · have : D.flush = D.step := by simp only [Int.ofNat_zero] at h1; simp [DS.flush, h1, h4]
    rw [this, if_pos (by omega)]; exact ⟨h4, h5⟩
  · have : D.flush = (0, D.step.2.settle [] 128) := by simp only [Int.ofNat_zero] at h1; simp [DS.flush, h1, h3]
    rw [this, if_neg (by omega)]
    exact ⟨rfl, settle_wf h4 _ _, by simp [DS.settle, length_settleL, h7.len], h7.lit, h7.drk⟩
theorem J_write {K i : Nat} {D : DS} (h : J K i D) (n : Nat) (hn : n < 64) (b : Blk) (hb : WB b) : (D.write n b).1 = (if 0 < K ∧ K ≤ i + 1 then 9 else 0) ∧ J K (i + 1) (D.write n b).2 := by
  rcases J_step h n hn with ⟨h1, h2, h3, h4⟩ | ⟨h1, h2, h3, h4, h5⟩ | ⟨h1, h2, h3, h4, h5, h6, h7⟩
  · have : D.write n b = (9, D) := by simp [DS.write, h3]
    rw [this, if_pos (by omega)]; exact ⟨rfl, h4⟩
  · have : D.write n b = D.step := by simp [DS.write, h1, h4]
    rw [this, if_pos (by omega)]; exact ⟨h4, h5⟩
  · have : D.write n b = (0, { D.step.2 with loose := D.step.2.loose ++ [(n, b)] }) := by simp [DS.write, h1, h3]
    rw [this, if_neg (by omega)]
    have hlo := h.wf.loose
    refine ⟨rfl, ⟨h4.lo, h4.hi, h4.wb, fun p hp => ?_, h4.left0, h4.left1, h4.steps, by simp [h5]; omega⟩, h7.len, h7.lit, h7.drk⟩
    simp only [List.mem_append, List.mem_singleton] at hp
    rcases hp with hp | rfl
    · exact h4.lb p hp
    · exact ⟨by rw [h7.len]; exact hn, hb⟩
end Go.Proofs.YtlckhaodecdbbaaGreat
/-! What the statements of layer 4 do, step by step: writes, then more. -/
namespace Go.Proofs.YtlckhaodecdbbaaGreat
open Go.Cx
attribute [local irreducible] Go.Cx.CX Go.Cx.CC Go.Cx.CQ Go.Cx.PS Go.Cx.Ctr Go.Cx.CH
set_option maxRecDepth 10000

/-- A disk that is not armed. -/
structure Lv (i : Nat) (D : DS) : Prop where
  wf : D.wf i
  len : D.sure.length = 64
  dark : D.dark = false
  left : D.left = 0
theorem Lv_new : Lv 0 (DS.new 64) := ⟨new_wf (by omega) (by omega), by simp [DS.new], rfl, rfl⟩
theorem Lv.lit {i : Nat} {D : DS} (h : Lv i D) (n : Nat) (hn : n < 64) : D.lit (n : Int) = 0 := by
  have := h.len
  simp [DS.lit, h.dark, DS.there, errOf, this]; omega
theorem Lv.there {i : Nat} {D : DS} (h : Lv i D) (n : Nat) (hn : n < 64) : D.there (n : Int) = 0 := by
  have := h.len
  simp [DS.there, errOf, this]; omega
theorem Lv.step {i : Nat} {D : DS} (h : Lv i D) : D.step = (0, { D with steps := D.steps + 1 }) := by
  obtain ⟨S, l, left, steps, dark⟩ := D
  have h1 := h.left
  simp only at h1; subst h1
  simp [DS.step]; omega
theorem Lv.write {i : Nat} {D : DS} (h : Lv i D) (n : Nat) (hn : n < 64) {b : Blk} (hb : WB b) : D.write n b = (0, { D with steps := D.steps + 1, loose := D.loose ++ [(n, b)] }) ∧ Lv (i + 1) { D with steps := D.steps + 1, loose := D.loose ++ [(n, b)] } := by
  refine ⟨by simp [DS.write, h.lit n hn, h.step], ⟨⟨h.wf.lo, h.wf.hi, h.wf.wb, fun p hp => ?_, h.wf.left0, h.wf.left1, by have := h.wf.steps; simp; omega, by have := h.wf.loose; simp; omega⟩, h.len, h.dark, h.left⟩⟩
  simp only [List.mem_append, List.mem_singleton] at hp
  rcases hp with hp | rfl
  · exact h.wf.lb p hp
  · exact ⟨by rw [h.len]; exact hn, hb⟩
theorem Lv.flush {i : Nat} {D : DS} (h : Lv i D) : ∃ D', D.flush = (0, D') ∧ Lv (i + 1) D' ∧ D'.loose = [] := by
  have h0 : D.lit 0 = 0 := h.lit 0 (by omega)
  refine ⟨({ D with steps := D.steps + 1 } : DS).settle [] 128, by simp [DS.flush, h0, h.step], ?_, rfl⟩
  have hw : ({ D with steps := D.steps + 1 } : DS).wf (i + 1) := ⟨h.wf.lo, h.wf.hi, h.wf.wb, h.wf.lb, h.wf.left0, h.wf.left1, by have := h.wf.steps; simp; omega, by have := h.wf.loose; simp; omega⟩
  exact ⟨settle_wf hw _ _, by simp [DS.settle, length_settleL, h.len], h.dark, h.left⟩
theorem Lv.crash {i : Nat} {D : DS} (h : Lv i D) (picks : List Int) : Lv i (D.crash picks) ∧ (D.crash picks).loose = [] := by
  have hw := settle_wf h.wf picks 0
  exact ⟨⟨⟨hw.lo, hw.hi, hw.wb, hw.lb, by simp [DS.crash], by simp [DS.crash], hw.steps, hw.loose⟩, by simp [DS.crash, DS.settle, length_settleL, h.len], rfl, rfl⟩, rfl⟩
theorem settleL_ne (picks : List Int) (o k : Nat) (l : List (Nat × Blk)) : ∀ (S : List Blk) (i : Nat), (∀ p ∈ l, p.1 ≠ k) → (settleL S picks o i l).getD k [] = S.getD k [] := by
  induction l with
  | nil => intro S i _; rfl
  | cons q l ih =>
    intro S i h
    simp only [settleL]
    rw [ih _ _ fun p hp => h p (by simp [hp])]
    simp [List.getElem?_set_ne (h q (by simp))]
theorem Lv.read {i : Nat} {D : DS} (h : Lv i D) (k : Nat) (hk : k < 64) (hl : D.loose = []) : D.read k = (D.sure.getD k [], 0) ∧ D.sureAt k = (D.sure.getD k [], 0) ∧ WB (D.sure.getD k []) := by
  refine ⟨?_, ?_, getD_WB h.wf.wb (by rw [h.len]; exact hk)⟩
  · simp [DS.read, h.lit k hk, DS.get, hl]
  · simp [DS.sureAt, h.there k hk]

end Go.Proofs.YtlckhaodecdbbaaGreat
/-! What the statement DiskAll does, step by step. -/
namespace Go.Proofs.YtlckhaodecdbbaaGreat
open Go.Cx
attribute [local irreducible] Go.Cx.CX Go.Cx.CC Go.Cx.CQ Go.Cx.PS Go.Cx.Ctr Go.Cx.CH
set_option maxRecDepth 10000

theorem settle_none (l : List (Nat × Blk)) : ∀ (S : List Blk) (i : Nat), settleL S [] 0 i l = S := by
  induction l with
  | nil => intro S i; rfl
  | cons q l ih =>
    intro S i
    have e : S.set q.1 (torn (S.getD q.1 []) q.2 (pickAt [] 0 i)) = S := by
      apply List.ext_getElem?
      intro j
      simp only [pickAt, torn, List.getElem?_nil, List.take_zero, List.drop_zero, List.nil_append, List.getElem?_set]
      split
      · rename_i hj; subst hj
        split
        · rename_i h; simp [h]
        · rename_i h; simp only [Nat.not_lt] at h; simp [h]
      · rfl
    simp only [settleL]; rw [e]; exact ih S _
theorem lastOf_snoc (l : List (Nat × Blk)) (p : Nat × Blk) (k : Nat) : lastOf (l ++ [p]) k = if p.1 = k then some p else lastOf l k := by
  have := lastOf_succ (l ++ [p]) k l.length (by simp)
  rw [List.take_of_length_le (by simp)] at this
  simpa using this
def valOf (S : List Blk) (l : List (Nat × Blk)) (k : Nat) : Blk := match lastOf l k with | some p => p.2 | none => S.getD k []
theorem settle_full (picks : List Int) (o : Nat) (S : List Blk) (hS : ∀ b ∈ S, WB b) (k : Nat) : ∀ (m : Nat) (l : List (Nat × Blk)), l.length = m → (∀ p ∈ l, p.1 < S.length ∧ WB p.2) → (∀ j, j < m → pickAt picks o j = 128) →
    (settleL S picks o 0 l).getD k [] = valOf S l k := by
  intro m
  induction m with
  | zero => intro l h _ _; obtain rfl := List.length_eq_zero_iff.1 h; rfl
  | succ m ih =>
    intro l h hl hp
    obtain ⟨l', p, rfl⟩ : ∃ l' p, l = l' ++ [p] := by
      have hne : l ≠ [] := by intro e; subst e; simp at h
      exact ⟨l.dropLast, l.getLast hne, (List.dropLast_concat_getLast hne).symm⟩
    have hm : l'.length = m := by simpa using h
    have hl' : ∀ q ∈ l', q.1 < S.length ∧ WB q.2 := fun q hq => hl q (by simp [hq])
    obtain ⟨hp1, hp2⟩ := hl p (by simp)
    have e := ih l' hm hl' fun j hj => hp j (by omega)
    have ht : ∀ old, WB old → torn old p.2 128 = p.2 := fun old ho => by
      unfold torn; rw [List.take_of_length_le (by rw [hp2]; omega), List.drop_of_length_le (by rw [ho]; omega)]; simp
    have hw := settleL_WB picks o l' S 0 hS hl'
    have hlen := length_settleL picks o l' S 0
    rw [settleL_snoc, Nat.zero_add, hm, hp m (by omega), ht _ (getD_WB hw (by omega))]
    unfold valOf at *
    rw [lastOf_snoc]
    by_cases hk : p.1 = k
    · subst hk; simp [show p.1 < (settleL S picks o 0 l').length by omega]
    · rw [if_neg hk, ← e]; simp [List.getElem?_set_ne hk]
def fills (i : Nat) : List Int := (List.range i).map fun (j : Nat) => (128 + j : Int)
theorem length_fills (i : Nat) : (fills i).length = i := by simp [fills]
theorem fills_succ (i : Nat) : fills (i + 1) = fills i ++ [(128 + i : Int)] := by simp [fills, List.range_succ]
theorem pickAt_fills {i j : Nat} (h : j < i) : pickAt (fills i) 0 j = 128 := by
  have : (fills i)[j]? = some (128 + (j : Int)) := by simp [fills, h]
  simp only [pickAt, this]; omega
def was16 (S : List Blk) (k : Nat) : List Blk := S.take k ++ List.replicate (16 - k) zblk
theorem was16_len {S : List Blk} (h : 16 ≤ S.length) {k : Nat} (hk : k ≤ 16) : (was16 S k).length = 16 := by simp [was16]; omega
theorem was16_WB {S : List Blk} (h : ∀ b ∈ S, WB b) (k : Nat) : ∀ b ∈ was16 S k, WB b := by
  intro b hb
  simp only [was16, List.mem_append, List.mem_replicate] at hb
  rcases hb with hb | ⟨_, rfl⟩
  · exact h b (List.mem_of_mem_take hb)
  · exact WB_z
theorem was16_set {S : List Blk} (hS : 16 ≤ S.length) (h : ∀ b ∈ S, WB b) {k : Nat} (hk : k < 16) : setL (flat (was16 S k)) (0 + k * 128) (cb (S.getD k [])) = flat (was16 S (k + 1)) := by
  have hg : S.getD k [] = S[k] := by simp [show k < S.length by omega]
  have hb : WB S[k] := h _ (by simp)
  have hl := was16_len hS (k := k) (by omega)
  have := rows_set cb 128 (was16 S k) (fun x hx => (was16_WB h k x hx).len) k (by omega) 0 (cb S[k]) S[k] (by rw [hb.len]; omega) (by
    have : ((cb (was16 S k)[k])).length = 128 := (was16_WB h k _ (by simp)).len
    simp [setL, hb.len, List.drop_of_length_le (show (cb (was16 S k)[k]).length ≤ 128 by omega)])
  rw [Nat.add_zero] at this
  rw [hg, Nat.zero_add, flat, this, flat]
  congr 1
  have h1 : 16 - k = (16 - (k + 1)) + 1 := by omega
  have h2 : (S.take k).length = k := by simp; omega
  unfold was16
  rw [h1, List.replicate_succ, List.set_append_right _ _ (by omega), h2, Nat.sub_self, List.set_cons_zero, List.take_succ_eq_append_getElem (show k < S.length by omega), List.append_assoc]
  rfl
theorem was16_get {S : List Blk} (hS : 16 ≤ S.length) (h : ∀ b ∈ S, WB b) {k : Nat} (hk : k < 16) : ((flat (was16 S 16)).drop (0 + k * 128)).take (cb (S.getD k [])).length = cb (S.getD k []) := by
  have hl := was16_len hS (k := 16) (by omega)
  have hg : S.getD k [] = (was16 S 16)[k]'(by omega) := by
    simp [was16, show k < S.length by omega]
  have hb : WB ((was16 S 16)[k]'(by omega)) := was16_WB h 16 _ (by simp)
  have := rows_get cb 128 (was16 S 16) (fun x hx => (was16_WB h 16 x hx).len) k (by omega) 0 128 (by omega)
  rw [hg, hb.len, Nat.zero_add]
  rw [Nat.add_zero, List.drop_zero] at this
  rw [flat, this, List.take_of_length_le (by rw [hb.len]; omega)]
theorem Lv.readG {i : Nat} {D : DS} (h : Lv i D) (k : Nat) (hk : k < 64) : D.read k = (valOf D.sure D.loose k, 0) ∧ WB (valOf D.sure D.loose k) := by
  constructor
  · simp [DS.read, h.lit k hk, DS.get, valOf, lastOf]; rfl
  · unfold valOf
    split
    · rename_i p hp
      have := List.mem_of_find?_eq_some hp
      exact (h.wf.lb p (by simpa using this)).2
    · exact getD_WB h.wf.wb (by rw [h.len]; exact hk)
theorem fill_int {cells : List Value} (hc : cells.length = 1) (k : IntKind) (z : Int) : fillL (fun i => some (i * 1, 1)) cells [(0, .int k z)] = some [.int k z] := by
  simp [fillL, Value.cells, setL, hc, List.drop_of_length_le]
end Go.Proofs.YtlckhaodecdbbaaGreat
/-! The document's disk: it does what the words of DkM say, too. -/
namespace Go.Proofs.YtlckhaodecdbbaaGreat
open Go.Cx
attribute [local irreducible] Go.Cx.CX Go.Cx.CC Go.Cx.CQ Go.Cx.PS Go.Cx.Ctr Go.Cx.CH
set_option maxRecDepth 10000

@[irreducible] def rdisk (p : Nat) (D : DS) : Assn :=
  exA (X := Nat × Nat × Option Addr × Nat) (fun _ => True) fun q =>
    [bk p 64 [.slice (some ⟨q.1, 0, none⟩) D.sure.length q.2.1, .slice q.2.2.1 D.loose.length q.2.2.2, .int .i64 D.left, .bool D.dark, .int .i64 (D.steps : Int)],
     own 32 128 (some ⟨q.1, 0, none⟩) D.sure.length q.2.1 (flat D.sure), own 71 129 q.2.2.1 D.loose.length q.2.2.2 (flatL D.loose)]
theorem rdisk_eq (p : Nat) (D : DS) : rdisk p D = exA (X := Nat × Nat × Option Addr × Nat) (fun _ => True) fun q =>
    [bk p 64 [.slice (some ⟨q.1, 0, none⟩) D.sure.length q.2.1, .slice q.2.2.1 D.loose.length q.2.2.2, .int .i64 D.left, .bool D.dark, .int .i64 (D.steps : Int)],
     own 32 128 (some ⟨q.1, 0, none⟩) D.sure.length q.2.1 (flat D.sure), own 71 129 q.2.2.1 D.loose.length q.2.2.2 (flatL D.loose)] := by unfold rdisk; rfl

theorem rasks_c (p : Nat) (D : DS) (n : Int) : Ctr Tryz.prog 25 [.pointer (some ⟨p, 0, none⟩), .int .i64 n] [rdisk p D] (fun _ => True) (fun v M => v = .int .i64 (D.lit n) ∧ M = [rdisk p D]) := by
  obtain ⟨S, l, left, steps, dark⟩ := D
  refine Ctr.intro Tryz.func25 rfl Tryz.ntmps25 rfl fun x w hp => ?_
  (refine CC.openL (rdisk_eq p _) (by first | exact pickA | exact updA) ?_; rintro ⟨sb, sc, la, lc⟩ -)
  cases dark
  · by_cases h1 : n < 0
    · refine wk ?_
      (refine CQ.shutL (rdisk_eq p ⟨S, l, left, steps, false⟩) (_, _, _, _) trivial (by exact selA) ?_)
      ((apply CQ.end1; (· rfl); (· exact .tmp rfl)); (· exact ⟨by simp [DS.lit, DS.there, errOf]; omega, rfl⟩); (· exact selA))
    by_cases h2 : (S.length : Int) ≤ n
    · refine wk ?_
      (refine CQ.shutL (rdisk_eq p ⟨S, l, left, steps, false⟩) (_, _, _, _) trivial (by exact selA) ?_)
      ((apply CQ.end1; (· rfl); (· exact .tmp rfl)); (· exact ⟨by simp [DS.lit, DS.there, errOf]; omega, rfl⟩); (· exact selA))
    · refine wk ?_
      (refine CQ.shutL (rdisk_eq p ⟨S, l, left, steps, false⟩) (_, _, _, _) trivial (by exact selA) ?_)
      ((apply CQ.end1; (· rfl); (· exact .tmp rfl)); (· exact ⟨by simp [DS.lit, DS.there, errOf]; omega, rfl⟩); (· exact selA))
  · refine wk ?_
    (refine CQ.shutL (rdisk_eq p ⟨S, l, left, steps, true⟩) (_, _, _, _) trivial (by exact selA) ?_)
    ((apply CQ.end1; (· rfl); (· exact .tmp rfl)); (· exact ⟨rfl, rfl⟩); (· exact selA))
theorem rstep_c (p : Nat) (D : DS) {N : Nat} (h : D.wf N) (hN : N < 1000000) : Ctr Tryz.prog 26 [.pointer (some ⟨p, 0, none⟩)] [rdisk p D] (fun _ => True) (fun v M => v = .int .i64 D.step.1 ∧ M = [rdisk p D.step.2]) := by
  have hl0 := h.left0
  have hl1 := h.left1
  have hs := h.steps
  obtain ⟨S, l, left, steps, dark⟩ := D
  simp only at hl0 hl1 hs
  refine Ctr.intro Tryz.func26 rfl Tryz.ntmps26 rfl fun x w hp => ?_
  (refine CC.openL (rdisk_eq p _) (by first | exact pickA | exact updA) ?_; rintro ⟨sb, sc, la, lc⟩ -)
  by_cases h1 : left = 1
  · subst h1
    refine wk ?_
    (refine CQ.shutL (rdisk_eq p ⟨S, l, 1, steps, true⟩) (_, _, _, _) trivial (by exact selA) ?_)
    ((apply CQ.end1; (· rfl); (· exact .tmp rfl)); (· exact ⟨rfl, rfl⟩); (· exact selA))
  · have e : DS.step ⟨S, l, left, steps, dark⟩ = (0, ⟨S, l, max (left - 1) 0, steps + 1, dark⟩) := by simp [DS.step, h1]
    rw [e]
    by_cases h2 : 1 < left
    · have e2 : max (left - 1) 0 = left - 1 := by omega
      rw [e2]
      refine wk ?_
      (refine CQ.shutL (rdisk_eq p ⟨S, l, left - 1, steps + 1, dark⟩) (_, _, _, _) trivial (by exact selA) ?_)
      ((apply CQ.end1; (· rfl); (· exact .tmp rfl)); (· exact ⟨rfl, rfl⟩); (· exact selA))
    · have e2 : max (left - 1) 0 = left := by omega
      rw [e2]
      refine wk ?_
      (refine CQ.shutL (rdisk_eq p ⟨S, l, left, steps + 1, dark⟩) (_, _, _, _) trivial (by exact selA) ?_)
      ((apply CQ.end1; (· rfl); (· exact .tmp rfl)); (· exact ⟨rfl, rfl⟩); (· exact selA))
theorem rblocks_c (p : Nat) (D : DS) : Ctr Tryz.prog 81 [.pointer (some ⟨p, 0, none⟩)] [rdisk p D] (fun _ => True) (fun v M => v = .int .i64 D.sure.length ∧ M = [rdisk p D]) := by
  refine Ctr.intro Tryz.func81 rfl Tryz.ntmps81 rfl fun x w hp => ?_
  (refine CC.openL (rdisk_eq p _) (by first | exact pickA | exact updA) ?_; rintro ⟨sb, sc, la, lc⟩ -)
  refine wk ?_
  (refine CQ.shutL (rdisk_eq p D) (_, _, _, _) trivial (by exact selA) ?_)
  ((apply CQ.end1; (· rfl); (· exact .tmp rfl)); (· exact ⟨rfl, rfl⟩); (· exact selA))
theorem rsteps_c (p : Nat) (D : DS) : Ctr Tryz.prog 13 [.pointer (some ⟨p, 0, none⟩)] [rdisk p D] (fun _ => True) (fun v M => v = .int .i64 D.steps ∧ M = [rdisk p D]) := by
  refine Ctr.intro Tryz.func13 rfl Tryz.ntmps13 rfl fun x w hp => ?_
  (refine CC.openL (rdisk_eq p _) (by first | exact pickA | exact updA) ?_; rintro ⟨sb, sc, la, lc⟩ -)
  refine wk ?_
  (refine CQ.shutL (rdisk_eq p D) (_, _, _, _) trivial (by exact selA) ?_)
  ((apply CQ.end1; (· rfl); (· exact .tmp rfl)); (· exact ⟨rfl, rfl⟩); (· exact selA))
theorem rdark_c (p : Nat) (D : DS) : Ctr Tryz.prog 17 [.pointer (some ⟨p, 0, none⟩)] [rdisk p D] (fun _ => True) (fun v M => v = .bool D.dark ∧ M = [rdisk p D]) := by
  refine Ctr.intro Tryz.func17 rfl Tryz.ntmps17 rfl fun x w hp => ?_
  (refine CC.openL (rdisk_eq p _) (by first | exact pickA | exact updA) ?_; rintro ⟨sb, sc, la, lc⟩ -)
  refine wk ?_
  (refine CQ.shutL (rdisk_eq p D) (_, _, _, _) trivial (by exact selA) ?_)
  ((apply CQ.end1; (· rfl); (· exact .tmp rfl)); (· exact ⟨rfl, rfl⟩); (· exact selA))
theorem rarm_c (p : Nat) (D : DS) (n : Int) (hlen : 0 < D.sure.length) : Ctr Tryz.prog 45 [.pointer (some ⟨p, 0, none⟩), .int .i64 n] [rdisk p D] (fun _ => True) (fun v M => v = .int .i64 (D.arm n).1 ∧ M = [rdisk p (D.arm n).2]) := by
  obtain ⟨S, l, left, steps, dark⟩ := D
  have h0 : DS.lit ⟨S, l, left, steps, false⟩ 0 = 0 := by
    have hl : 0 < S.length := hlen
    simp only [DS.lit, DS.there, errOf, Bool.false_eq_true, if_false]
    rw [if_pos ⟨by omega, by omega⟩]
  refine Ctr.intro Tryz.func45 rfl Tryz.ntmps45 rfl fun x w hp => ?_
  (refine CC.openL (rdisk_eq p _) (by first | exact pickA | exact updA) ?_; rintro ⟨sb, sc, la, lc⟩ -)
  cases dark
  · by_cases h1 : n < 0
    · have e : DS.arm ⟨S, l, left, steps, false⟩ n = (2, ⟨S, l, left, steps, false⟩) := by simp [DS.arm, h0, h1]
      rw [e]
      refine wk ?_
      (refine CQ.shutL (rdisk_eq p ⟨S, l, left, steps, false⟩) (_, _, _, _) trivial (by exact selA) ?_)
      ((apply CQ.end1; (· rfl); (· exact .tmp rfl)); (· exact ⟨rfl, rfl⟩); (· exact selA))
    · have e : DS.arm ⟨S, l, left, steps, false⟩ n = (0, ⟨S, l, n, steps, false⟩) := by simp [DS.arm, h0, h1]
      rw [e]
      refine wk ?_
      (refine CQ.shutL (rdisk_eq p ⟨S, l, n, steps, false⟩) (_, _, _, _) trivial (by exact selA) ?_)
      ((apply CQ.end1; (· rfl); (· exact .tmp rfl)); (· exact ⟨rfl, rfl⟩); (· exact selA))
  · have e : DS.arm ⟨S, l, left, steps, true⟩ n = (9, ⟨S, l, left, steps, true⟩) := by simp [DS.arm, DS.lit]
    rw [e]
    refine wk ?_
    (refine CQ.shutL (rdisk_eq p ⟨S, l, left, steps, true⟩) (_, _, _, _) trivial (by exact selA) ?_)
    ((apply CQ.end1; (· rfl); (· exact .tmp rfl)); (· exact ⟨rfl, rfl⟩); (· exact selA))
theorem rsure_c (p : Nat) (D : DS) (n : Int) {N : Nat} (h : D.wf N) : Ctr Tryz.prog 21 [.pointer (some ⟨p, 0, none⟩), .int .i64 n] [rdisk p D] (fun _ => True) (fun v M => v = .tuple #[.agg (cb (D.sureAt n).1).toArray, .int .i64 (D.sureAt n).2] ∧ M = [rdisk p D]) := by
  refine Ctr.intro Tryz.func21 rfl Tryz.ntmps21 rfl fun x w hp => ?_
  refine wk ?_
  (refine CX.allocZ (cb zblk) ?_; intro r)
  (refine CX.openL (rdisk_eq p _) (by first | exact pickA | exact updA) ?_; rintro ⟨sb, sc, la, lc⟩ -)
  by_cases h0 : D.there n = 0
  · obtain ⟨k, rfl, hk⟩ := there_ok h0
    have hb : WB D.sure[k] := h.wb _ (by simp)
    refine wk ?_
    (refine CX.indexA (k) ?_ ?_; (· exact hk))
    (apply CX.ps; (· apply PS.loadG (vs := cb D.sure[k]); (· rfl); (· rfl); (· exact CellsAt.own (by first | exact pickA | exact updA) (sure_at h hk)); (· exact hb.len)))
    (apply CX.storeAll; (· rfl); (· rfl); (· rfl); (· first | exact pickA | exact updA); (· exact hb.len); (· exact WB_z.len); (· exact one_cb _))
    refine wk ?_
    (refine CQ.shutL (rdisk_eq p D) (_, _, _, _) trivial (by exact selA) ?_)
    ((apply CQ.end2; (· rfl); (· exact .cells inferInstance rfl (CellsAt.all (by first | exact pickA | exact updA)) (hb.len)); (· exact .tmp rfl)); (· exact ⟨by simp [DS.sureAt, h0, hk], rfl⟩); (· exact selA))
  · have h2 : D.there n = 2 := by unfold DS.there errOf at h0 ⊢; split at h0; exact absurd rfl h0; rename_i hh; rw [if_neg hh]
    have hn : ¬ (0 ≤ n ∧ n < D.sure.length) := by intro hh; unfold DS.there errOf at h0; rw [if_pos hh] at h0; exact h0 rfl
    by_cases h1 : n < 0
    · refine wk ?_
      (apply CX.ps; (· apply PS.buildZ (vs := cb zblk); (· rfl); (· simp [cb_z, Value.cells])))
      refine wk ?_
      (apply CX.storeAll; (· rfl); (· rfl); (· rfl); (· first | exact pickA | exact updA); (· exact WB_z.len); (· exact WB_z.len); (· exact one_cb _))
      refine wk ?_
      (refine CQ.shutL (rdisk_eq p D) (_, _, _, _) trivial (by exact selA) ?_)
      ((apply CQ.end2; (· rfl); (· exact .cells inferInstance rfl (CellsAt.all (by first | exact pickA | exact updA)) (WB_z.len)); (· exact .tmp rfl)); (· exact ⟨by simp [DS.sureAt, h2], rfl⟩); (· exact selA))
    · have h3 : (D.sure.length : Int) ≤ n := by omega
      refine wk ?_
      (apply CX.ps; (· apply PS.buildZ (vs := cb zblk); (· rfl); (· simp [cb_z, Value.cells])))
      refine wk ?_
      (apply CX.storeAll; (· rfl); (· rfl); (· rfl); (· first | exact pickA | exact updA); (· exact WB_z.len); (· exact WB_z.len); (· exact one_cb _))
      refine wk ?_
      (refine CQ.shutL (rdisk_eq p D) (_, _, _, _) trivial (by exact selA) ?_)
      ((apply CQ.end2; (· rfl); (· exact .cells inferInstance rfl (CellsAt.all (by first | exact pickA | exact updA)) (WB_z.len)); (· exact .tmp rfl)); (· exact ⟨by simp [DS.sureAt, h2], rfl⟩); (· exact selA))
theorem rwrite_c (p : Nat) (D : DS) (n : Int) (b : Blk) (hb : WB b) {N : Nat} (h : D.wf N) (hN : N < 1000000) : Ctr Tryz.prog 9 [.pointer (some ⟨p, 0, none⟩), .int .i64 n, .agg (cb b).toArray] [rdisk p D] (fun _ => True) (fun v M => v = .int .i64 (D.write n b).1 ∧ M = [rdisk p (D.write n b).2]) := by
  have hlo := h.loose
  refine Ctr.intro Tryz.func9 rfl Tryz.ntmps9 rfl fun x w hp => ?_
  refine wk ?_
  (refine CX.boxA ?_; intro c)
  refine wk ?_
  refine CX.callA (rasks_c p D n) ?_
  rintro _ _ ⟨rfl, rfl⟩
  by_cases h0 : D.lit n = 0
  · have h1 : D.there n = 0 := by unfold DS.lit at h0; split at h0; cases h0; exact h0
    obtain ⟨k, rfl, hk⟩ := there_ok h1
    refine wk ?_
    refine CX.callA (rstep_c p D h hN) ?_
    rintro _ _ ⟨rfl, rfl⟩
    by_cases h2 : D.step.1 = 0
    · have e : D.write k b = (0, { D.step.2 with loose := D.step.2.loose ++ [(k, b)] }) := by simp [DS.write, h0, h2]
      have hlo' : D.step.2.loose.length ≤ N := by unfold DS.step; split <;> exact hlo
      refine wk ?_
      rw [e, h2]
      generalize D.step.2 = D' at hlo' ⊢
      (refine CC.openL (rdisk_eq p _) (by first | exact pickA | exact updA) ?_; rintro ⟨sb, sc, la, lc⟩ -)
      refine CC.draw [(0, 0), (1, 0), (2, 0), (3, 0), (4, 1), (5, 0), (6, 1), (7, 0), (8, 2), (9, 2), (10, 0), (11, 0), (12, 3)] mixed rfl (by kernel_rfl) (by kernel_rfl) [bk p 64 [.slice (some ⟨sb, 0, none⟩) D'.sure.length sc, .slice la D'.loose.length lc, .int .i64 D'.left, .bool D'.dark, .int .i64 (D'.steps : Int)], bk c 32 (cb b)] ?_
      refine hwk ?_
      (apply CH.read; (· rfl); (· apply PS.loadG (vs := cb b); (· rfl); (· rfl); (· exact CellsAt.all (by first | exact pickA | exact updA)); (· exact hb.len)); (· exact selA))
      (apply CH.pure; (· rfl); (· apply PS.build (vs := [(0, .int .i64 (k : Int)), (1, .agg (cb b).toArray)]); (· rfl); (· rfl); (· exact fill_put k b hb)))
      refine CH.chain rfl fun K hK => ?_
      apply CX.buildSl (vs := [(0, .agg (pc (k, b)).toArray)])
      · rfl
      · rfl
      · decide
      · exact fill_one (length_pc hb) (by simp)
      intro q
      (refine CX.nil ?_; refine CQ.thenK ?_; apply hK; (· exact selA); clear hK K)
      refine CH.chain rfl fun K hK => ?_
      apply CX.append (m := 1) (news := pc (k, b))
      · rfl
      · rfl
      · rfl
      · first | exact pickA | exact updA
      · exact RdS.pick (by first | exact pickA | exact updA) (length_pc hb) (one_pc _) (by rw [List.drop_zero, List.take_of_length_le (by rw [length_pc hb]; omega)])
      · omega
      · intro hh; cases hh
      intro la' lc'
      (refine CX.nil ?_; refine CQ.thenK ?_; apply hK; (· exact selA); clear hK K)
      refine hwk ?_
      refine CH.tail rfl rfl fun K hK => ?_
      refine CX.storeA ?_
      (refine CX.nil ?_; refine CQ.thenK ?_; apply hK; clear hK K)
      refine hwk ?_
      refine wk ?_
      have e5 : D'.loose.length + 1 = (D'.loose ++ [(k, b)]).length := by simp
      have e6 : flatL D'.loose ++ pc (k, b) = flatL (D'.loose ++ [(k, b)]) := by simp [flatL, rows]
      rw [e5, e6]
      (refine CQ.shutL (rdisk_eq p ({ D' with loose := D'.loose ++ [(k, b)] })) (sb, sc, la', lc') trivial (by exact selA) ?_)
      ((apply CQ.end1; (· rfl); (· exact .tmp rfl)); (· exact ⟨rfl, rfl⟩); (· exact selA))
    · have e : D.write k b = D.step := by simp [DS.write, h0, h2]
      refine wk ?_
      rw [e]
      ((apply CQ.end1; (· rfl); (· exact .tmp rfl)); (· exact ⟨rfl, rfl⟩); (· exact selA))
  · have e : D.write n b = (D.lit n, D) := by simp [DS.write, h0]
    refine wk ?_
    rw [e]
    ((apply CQ.end1; (· rfl); (· exact .tmp rfl)); (· exact ⟨rfl, rfl⟩); (· exact selA))
theorem rflush_c (p : Nat) (D : DS) {N : Nat} (h : D.wf N) (hN : N < 999999) : Ctr Tryz.prog 89 [.pointer (some ⟨p, 0, none⟩)] [rdisk p D] (fun _ => True) (fun v M => v = .int .i64 D.flush.1 ∧ M = [rdisk p D.flush.2]) := by
  have hl := h.lo
  obtain ⟨S, l, left, steps, dark⟩ := D
  have hl' : 64 ≤ S.length := hl
  refine Ctr.intro Tryz.func89 rfl Tryz.ntmps89 rfl fun x w hp => ?_
  (refine CC.openL (rdisk_eq p _) (by first | exact pickA | exact updA) ?_; rintro ⟨sb, sc, la, lc⟩ -)
  cases dark
  · have h0 : DS.lit ⟨S, l, left, steps, false⟩ 0 = 0 := by
      simp only [DS.lit, DS.there, errOf, Bool.false_eq_true, if_false]
      rw [if_pos ⟨by omega, by omega⟩]
    refine wk ?_
    (refine CX.shutL (rdisk_eq p ⟨S, l, left, steps, false⟩) (_, _, _, _) trivial (by exact selA) ?_)
    refine CX.callA (rstep_c p ⟨S, l, left, steps, false⟩ h (by omega)) ?_
    rintro _ _ ⟨rfl, rfl⟩
    by_cases h2 : (DS.step ⟨S, l, left, steps, false⟩).1 = 0
    · have e : DS.flush ⟨S, l, left, steps, false⟩ = (0, (DS.step ⟨S, l, left, steps, false⟩).2.settle [] 128) := by simp [DS.flush, h0, h2]
      have hw := step_wf h
      rw [e]
      refine wk ?_
      generalize (DS.step ⟨S, l, left, steps, false⟩).2 = D' at hw ⊢
      have hlo := hw.loose
      have hlb : ∀ p ∈ D'.loose, WB p.2 := fun p hp => (hw.lb p hp).2
      (refine CC.openL (rdisk_eq p _) (by first | exact pickA | exact updA) ?_; rintro ⟨sb, sc, la, lc⟩ -)
      refine CC.loop (X := Nat) (fun i => [(4, .int .i64 (i : Int)), (0, .pointer (some ⟨p, 0, none⟩))])
        (fun i => [bk p 64 [.slice (some ⟨sb, 0, none⟩) D'.sure.length sc, .slice la D'.loose.length lc, .int .i64 D'.left, .bool D'.dark, .int .i64 (D'.steps : Int)],
          own 32 128 (some ⟨sb, 0, none⟩) D'.sure.length sc (flat (settleL D'.sure [] 128 0 (D'.loose.take i))), own 71 129 la D'.loose.length lc (flatL D'.loose), exact x])
        (fun i => i ≤ D'.loose.length) (fun i => D'.loose.length - i) 0 (Nat.zero_le _) ⟨rfl, rfl, trivial⟩ (by exact selA) ?_
      intro i hi
      by_cases hlt : i < D'.loose.length
      · have hwb := hlb D'.loose[i] (by simp)
        have hin := (hw.lb D'.loose[i] (by simp)).1
        have hSw := settleL_WB [] 128 (D'.loose.take i) D'.sure 0 hw.wb (fun q hq => hw.lb q (List.mem_of_mem_take hq))
        have hSl' : (settleL D'.sure [] 128 0 (D'.loose.take i)).length = D'.sure.length := length_settleL _ _ _ _ _
        have hsnoc : settleL D'.sure [] 128 0 (D'.loose.take (i + 1)) = (settleL D'.sure [] 128 0 (D'.loose.take i)).set D'.loose[i].1 (torn ((settleL D'.sure [] 128 0 (D'.loose.take i)).getD D'.loose[i].1 []) D'.loose[i].2 128) := by
          rw [List.take_succ_eq_append_getElem hlt, settleL_snoc]; rfl
        generalize settleL D'.sure [] 128 0 (D'.loose.take i) = SS at *
        refine CC.fact (p := ∃ g, la = some ⟨g, 0, none⟩) (fun h hs => ?_) fun hla => ?_
        · rcases own_some (Pick.ok (show Pick (own 71 129 la D'.loose.length lc (flatL D'.loose)) _ _ from by first | exact pickA | exact updA) hs) with ⟨_, h0, _⟩ | hh
          · omega
          · exact hh
        obtain ⟨g, rfl⟩ := hla
        refine wk ?_
        refine CC.draw [(0, 0), (1, 0), (2, 0), (3, 1), (4, 0), (5, 0), (6, 0), (7, 1), (8, 0), (9, 0), (10, 0), (11, 1), (12, 0), (13, 0), (14, 0), (15, 1), (16, 0), (17, 0), (18, 0), (19, 1), (20, 0), (21, 3)] mixed rfl (by kernel_rfl) (by kernel_rfl) [bk p 64 [.slice (some ⟨sb, 0, none⟩) D'.sure.length sc, .slice (some ⟨g, 0, none⟩) D'.loose.length lc, .int .i64 D'.left, .bool D'.dark, .int .i64 (D'.steps : Int)], own 71 129 (some ⟨g, 0, none⟩) D'.loose.length lc (flatL D'.loose)] ?_
        refine hwk ?_
        (apply CH.pure; (· rfl); (· apply PS.indexAddr (j := i); (· rfl); (· rfl); (· rfl); (· rfl); (· exact hlt)))
        refine hwk ?_
        (apply CH.read; (· rfl); (· apply PS.load (v := .int .i64 (D'.loose[i].1 : Int)); (· rfl); (· rfl); (· exact CellAt.own (by first | exact pickA | exact updA) (by rw [Nat.zero_add, Nat.add_zero]; exact flatL_n _ hlb i hlt))); (· exact selA))
        refine hwk ?_
        (apply CH.pure; (· rfl); (· apply PS.indexAddr (j := i); (· rfl); (· rfl); (· rfl); (· rfl); (· exact hlt)))
        refine hwk ?_
        (apply CH.read; (· rfl); (· apply PS.loadG (vs := cb D'.loose[i].2); (· rfl); (· rfl); (· exact CellsAt.own (by first | exact pickA | exact updA) (by rw [hwb.len, Nat.zero_add]; exact flatL_b _ hlb i hlt)); (· exact hwb.len)); (· exact selA))
        (apply CH.pure; (· rfl); (· apply PS.indexAddr (j := D'.loose[i].1); (· rfl); (· rfl); (· rfl); (· rfl); (· exact hin)))
        refine CH.tail rfl rfl fun K hK => ?_
        apply CX.storeOwn (v := .agg (cb D'.loose[i].2).toArray)
        · rfl
        · rfl
        · rfl
        · show (cb _).toArray.size = 128
          rw [List.size_toArray]; exact hwb.len
        · simpa [Value.cells] using one_cb _
        · first | exact pickA | exact updA
        · omega
        have e1 : setL (flat SS) (0 + D'.loose[i].1 * 128) (Value.agg (cb D'.loose[i].2).toArray).cells.toList = flat (settleL D'.sure [] 128 0 (D'.loose.take (i + 1))) := by
          have := flat_set hSw (k := D'.loose[i].1) (by omega) D'.loose[i].2 128 (Nat.le_refl _) hwb
          rw [List.take_of_length_le (by rw [hwb]; omega)] at this
          rw [hsnoc, ← this, Nat.zero_add]; rfl
        rw [e1]
        clear e1
        (refine CX.nil ?_; refine CQ.thenK ?_; apply hK; clear hK K)
        refine hwk ?_
        refine wk ?_
        exact CQ.round (i + 1) hlt (by omega) ⟨eqI (by omega), rfl, trivial⟩ (by exact selA)
      · obtain rfl : i = D'.loose.length := by omega
        refine wk ?_
        refine CQ.ownNil 71 129 ?_
        have e2 : D'.sure.length = (D'.settle [] 128).sure.length := by simp [DS.settle, length_settleL]
        rw [e2, List.take_length]
        (refine CQ.shutL (rdisk_eq p (D'.settle [] 128)) (_, _, _, _) trivial (by exact selA) ?_)
        ((apply CQ.end1; (· rfl); (· exact .tmp rfl)); (· exact ⟨rfl, rfl⟩); (· exact selA))
    · have e : DS.flush ⟨S, l, left, steps, false⟩ = DS.step ⟨S, l, left, steps, false⟩ := by simp [DS.flush, h0, h2]
      rw [e]
      refine wk ?_
      ((apply CQ.end1; (· rfl); (· exact .tmp rfl)); (· exact ⟨rfl, rfl⟩); (· exact selA))
  · have e : DS.flush ⟨S, l, left, steps, true⟩ = (9, ⟨S, l, left, steps, true⟩) := by simp [DS.flush, DS.lit]
    rw [e]
    refine wk ?_
    (refine CQ.shutL (rdisk_eq p ⟨S, l, left, steps, true⟩) (_, _, _, _) trivial (by exact selA) ?_)
    ((apply CQ.end1; (· rfl); (· exact .tmp rfl)); (· exact ⟨rfl, rfl⟩); (· exact selA))
abbrev RL (p : Nat) (D : DS) (sb sc : Nat) (la : Option Addr) (lc : Nat) : List Assn :=
    [bk p 64 [.slice (some ⟨sb, 0, none⟩) D.sure.length sc, .slice la D.loose.length lc, .int .i64 D.left, .bool D.dark, .int .i64 (D.steps : Int)],
     own 32 128 (some ⟨sb, 0, none⟩) D.sure.length sc (flat D.sure), own 71 129 la D.loose.length lc (flatL D.loose)]
theorem rnew_c (n : Int) : Ctr Tryz.prog 6 [.int .i64 n] [] (fun _ => True) (fun v M => (64 ≤ n ∧ n ≤ 4096 ∧ ∃ p, v = .tuple #[.pointer (some ⟨p, 0, none⟩), .int .i64 0] ∧ M = [rdisk p (DS.new n.toNat)]) ∨ (¬(64 ≤ n ∧ n ≤ 4096) ∧ v = .tuple #[.pointer none, .int .i64 2] ∧ M = [])) := by
  refine Ctr.intro Tryz.func6 rfl Tryz.ntmps6 rfl fun x w hp => ?_
  by_cases h1 : n < 64
  · refine wk ?_
    (apply CQ.end2; (· rfl); (· exact .tmp rfl); (· exact .tmp rfl))
    · exact .inr ⟨by omega, rfl, rfl⟩
    · exact selA
  by_cases h2 : 4096 < n
  · refine wk ?_
    (apply CQ.end2; (· rfl); (· exact .tmp rfl); (· exact .tmp rfl))
    · exact .inr ⟨by omega, rfl, rfl⟩
    · exact selA
  obtain ⟨k, rfl⟩ : ∃ k : Nat, n = k := ⟨n.toNat, by omega⟩
  refine wk ?_
  (apply CX.makeSl (l := k); (· rfl); (· rfl); (· rfl); (· rfl); (· omega); intro sb)
  (apply CX.ps; (· apply PS.build (vs := [(0, .slice (some ⟨sb, 0, none⟩) k k)]); (· rfl); (· rfl); (· rfl)))
  (refine CX.boxA ?_; intro p)
  refine wk ?_
  refine CQ.ownNil 71 129 ?_
  have e : (madeCells (List.replicate 128 (Value.int .u8 0)).toArray (k * 128)).toList = flat (List.replicate k zblk) := by rw [made_rep _ _ _ (by omega), flat_zs]
  have e2 : k = (DS.new k).sure.length := by simp [DS.new]
  have e3 : (fun l => flat (List.replicate l zblk)) k = flat (DS.new k).sure := rfl
  apply CQ.mem (L' := RL p (DS.new k) sb k none 0 ++ [exact x])
  · intro h hs
    have hs' : Sep ([own 71 129 none 0 0 [], bk p 64 [.slice (some ⟨sb, 0, none⟩) k k, .slice none 0 0, .int .i64 0, .bool false, .int .i64 0], own 32 128 (some ⟨sb, 0, none⟩) k k (madeCells (List.replicate 128 (Value.int .u8 0)).toArray (k * 128)).toList, exact x]) h := hs
    rw [e] at hs'
    have : Sel [own 71 129 none 0 0 [], bk p 64 [.slice (some ⟨sb, 0, none⟩) k k, .slice none 0 0, .int .i64 0, .bool false, .int .i64 0], own 32 128 (some ⟨sb, 0, none⟩) k k (flat (List.replicate k zblk)), exact x] (RL p (DS.new k) sb k none 0 ++ [exact x]) [] := by
      simp only [RL, DS.new, List.length_replicate]
      exact selA
    exact (this.sep hs').left
  (refine CQ.shutL (rdisk_eq p (DS.new k)) (_, _, _, _) trivial (by exact selA) ?_)
  (apply CQ.end2; (· rfl); (· exact .tmp rfl); (· exact .tmp rfl))
  · exact .inl ⟨by omega, by omega, p, rfl, rfl⟩
  · exact selA
theorem torn_succ {a b : Blk} (ha : WB a) (hb : WB b) {i : Nat} (hi : i < 128) : setL (cb (torn a b i)) (0 + i * 1) [.int .u8 ((b[i]'(by rw [hb]; exact hi)).toNat : Int)] = cb (torn a b (i + 1)) := by
  have hib : i < b.length := by rw [hb]; exact hi
  have e : [Value.int .u8 (b[i].toNat : Int)] = cb [b[i]] := rfl
  rw [e, cb_setL, Nat.zero_add, Nat.mul_one]
  congr 1
  have hl : (b.take i).length = i := by rw [List.length_take, hb]; omega
  unfold torn
  rw [List.take_append_of_le_length (by omega), List.take_of_length_le (by omega), List.drop_append, hl, List.drop_of_length_le (by rw [hl]; simp), List.nil_append, List.drop_drop, List.take_succ_eq_append_getElem hib, List.append_assoc]
  congr 3
  simp
theorem rtorn_c (a b : Blk) (ha : WB a) (hb : WB b) (n : Int) : Ctr Tryz.prog 49 [.agg (cb a).toArray, .agg (cb b).toArray, .int .i64 n] [] (fun _ => True) (fun v M => v = .agg (cb (torn a b (min (max n 0) 128).toNat)).toArray ∧ M = []) := by
  refine Ctr.intro Tryz.func49 rfl Tryz.ntmps49 rfl fun x w hp => ?_
  refine wk ?_
  (refine CX.boxA ?_; intro r)
  refine wk ?_
  (refine CX.boxA ?_; intro s)
  refine wk ?_
  (refine CX.allocZ (cb zblk) ?_; intro t)
  refine wk ?_
  generalize hm : (min (max n 0) 128).toNat = m
  refine CC.loop (X := Nat) (fun i => [(7, .int .i64 (i : Int)), (2, .int .i64 n), (3, .pointer (some ⟨r, 0, none⟩)), (4, .pointer (some ⟨s, 0, none⟩)), (6, .pointer (some ⟨t, 0, none⟩))])
    (fun i => [bk t 32 (cb zblk), bk s 32 (cb b), bk r 32 (cb (torn a b i)), exact x]) (fun i => i ≤ m) (fun i => 128 - i) 0 (Nat.zero_le _) ⟨rfl, rfl, rfl, rfl, rfl, trivial⟩ (by exact selA) ?_
  intro i hi
  by_cases hlt : i < m
  · have h1 : (i : Int) < 128 := by omega
    have h2 : (i : Int) < n := by omega
    have hib : i < b.length := by rw [hb]; omega
    have hw := torn_WB (n := i) ha hb
    refine wk ?_
    (apply CX.ps; (· apply PS.indexArr (j := i); (· rfl); (· rfl); (· rfl); (· rfl); (· omega)))
    (apply CX.ps; (· apply PS.load (v := .int .u8 (b[i].toNat : Int)); (· rfl); (· rfl); (· exact CellAt.pick (by first | exact pickA | exact updA) (by rw [Nat.zero_add, Nat.mul_one]; exact cb_get b i hib))))
    (apply CX.ps; (· apply PS.indexArr (j := i); (· rfl); (· rfl); (· rfl); (· rfl); (· omega)))
    (apply CX.storeC (v := .int .u8 (b[i].toNat : Int)); (· rfl); (· rfl); (· rfl); (· rfl); (· intro u hu; simp [Value.cells] at hu; rw [hu]; rfl))
    · first | exact pickA | exact updA
    · rw [hw.len]; omega
    have e1 : setL (cb (torn a b i)) (0 + i * 1) (Value.int .u8 (b[i].toNat : Int)).cells.toList = cb (torn a b (i + 1)) := torn_succ ha hb (by omega)
    rw [e1]
    refine wk ?_
    exact CQ.round (i + 1) hlt (by omega) ⟨eqI (by omega), rfl, rfl, rfl, rfl, trivial⟩ (by exact selA)
  · obtain rfl : i = m := by omega
    have hw := torn_WB (n := i) ha hb
    by_cases h1 : (i : Int) < 128
    · refine wk ?_
      ((apply CX.ps; (· apply PS.loadG (vs := cb (torn a b i)); (· rfl); (· rfl); (· exact CellsAt.all (by first | exact pickA | exact updA)); (· exact hw.len))))
      (apply CX.storeAll; (· rfl); (· rfl); (· rfl); (· first | exact pickA | exact updA); (· exact hw.len); (· exact WB_z.len); (· exact one_cb _))
      refine wk ?_
      ((apply CQ.end1; (· rfl); (· exact .cells inferInstance rfl (CellsAt.all (by first | exact pickA | exact updA)) (hw.len))); (· exact ⟨rfl, rfl⟩); (· exact selA))
    · refine wk ?_
      ((apply CX.ps; (· apply PS.loadG (vs := cb (torn a b i)); (· rfl); (· rfl); (· exact CellsAt.all (by first | exact pickA | exact updA)); (· exact hw.len))))
      (apply CX.storeAll; (· rfl); (· rfl); (· rfl); (· first | exact pickA | exact updA); (· exact hw.len); (· exact WB_z.len); (· exact one_cb _))
      refine wk ?_
      ((apply CQ.end1; (· rfl); (· exact .cells inferInstance rfl (CellsAt.all (by first | exact pickA | exact updA)) (hw.len))); (· exact ⟨rfl, rfl⟩); (· exact selA))
end Go.Proofs.YtlckhaodecdbbaaGreat
/-! The document's disk: Read, Rot, Crash. -/
namespace Go.Proofs.YtlckhaodecdbbaaGreat
open Go.Cx
attribute [local irreducible] Go.Cx.CX Go.Cx.CC Go.Cx.CQ Go.Cx.PS Go.Cx.Ctr Go.Cx.CH
set_option maxRecDepth 10000

theorem flat_get {S : List Blk} (h : ∀ b ∈ S, WB b) {k : Nat} (hk : k < S.length) : ((flat S).drop (0 + k * 128)).take (cb (S.getD k [])).length = cb (S.getD k []) := by
  have hg : S.getD k [] = S[k] := by simp [hk]
  have hb : WB S[k] := h _ (by simp)
  have := rows_get cb 128 S (fun x hx => (h x hx).len) k hk 0 128 (by omega)
  rw [hg, hb.len, Nat.zero_add]
  rw [Nat.add_zero, List.drop_zero] at this
  rw [flat, this, List.take_of_length_le (by rw [hb.len]; omega)]
theorem valOf_WB {S : List Blk} {l : List (Nat × Blk)} (hS : ∀ b ∈ S, WB b) (hl : ∀ p ∈ l, WB p.2) {k : Nat} (hk : k < S.length) : WB (valOf S l k) := by
  unfold valOf
  split
  · rename_i p hp
    have := List.mem_of_find?_eq_some hp
    exact hl p (by simpa using this)
  · exact getD_WB hS hk
theorem valOf_succ (S : List Blk) (l : List (Nat × Blk)) (k i : Nat) (h : i < l.length) : valOf S (l.take (i + 1)) k = if l[i].1 = k then l[i].2 else valOf S (l.take i) k := by
  unfold valOf
  rw [lastOf_succ l k i h]
  by_cases he : l[i].1 = k
  · rw [if_pos he, if_pos he]
  · rw [if_neg he, if_neg he]
theorem torn_all {a b : Blk} (ha : WB a) (hb : WB b) : torn a b 128 = b := by
  unfold torn; rw [List.take_of_length_le (by rw [hb]; omega), List.drop_of_length_le (by rw [ha]; omega), List.append_nil]
theorem rread_c (p : Nat) (D : DS) (n : Int) {N : Nat} (h : D.wf N) (hN : N < 1000000) : Ctr Tryz.prog 100 [.pointer (some ⟨p, 0, none⟩), .int .i64 n] [rdisk p D] (fun _ => True) (fun v M => v = .tuple #[.agg (cb (D.read n).1).toArray, .int .i64 (D.read n).2] ∧ M = [rdisk p D]) := by
  have hlo := h.loose
  have hlb : ∀ p ∈ D.loose, WB p.2 := fun p hp => (h.lb p hp).2
  refine Ctr.intro Tryz.func100 rfl Tryz.ntmps100 rfl fun x w hp => ?_
  refine wk ?_
  (refine CX.allocZ (cb zblk) ?_; intro r)
  refine wk ?_
  refine CX.callA (rasks_c p D n) ?_
  rintro _ _ ⟨rfl, rfl⟩
  by_cases h0 : D.lit n = 0
  · have h1 : D.there n = 0 := by unfold DS.lit at h0; split at h0; cases h0; exact h0
    obtain ⟨k, rfl, hk⟩ := there_ok h1
    have hb : WB D.sure[k] := h.wb _ (by simp)
    (refine CX.openL (rdisk_eq p _) (by first | exact pickA | exact updA) ?_; rintro ⟨sb, sc, la, lc⟩ -)
    refine wk ?_
    (refine CX.indexA (k) ?_ ?_; (· exact hk))
    (apply CX.ps; (· apply PS.loadG (vs := cb D.sure[k]); (· rfl); (· rfl); (· exact CellsAt.own (by first | exact pickA | exact updA) (sure_at h hk)); (· exact hb.len)))
    (refine CX.allocZ (cb zblk) ?_; intro b7)
    (apply CX.storeAll; (· rfl); (· rfl); (· rfl); (· first | exact pickA | exact updA); (· exact hb.len); (· exact WB_z.len); (· exact one_cb _))
    refine wk ?_
    have hv0 : D.sure[k] = valOf D.sure (D.loose.take 0) k := by simp [valOf, lastOf, hk]
    have hr : D.read k = (valOf D.sure D.loose k, 0) := by simp [DS.read, h0, DS.get, valOf, lastOf]; rfl
    rw [hv0]
    refine CC.loop (X := Nat) (fun i => [(8, .int .i64 (i : Int)), (0, .pointer (some ⟨p, 0, none⟩)), (1, .int .i64 (k : Int)), (4, .pointer (some ⟨r, 0, none⟩)), (7, .pointer (some ⟨b7, 0, none⟩))])
      (fun i => [bk b7 32 (cb (valOf D.sure (D.loose.take i) k)), bk p 64 [.slice (some ⟨sb, 0, none⟩) D.sure.length sc, .slice la D.loose.length lc, .int .i64 D.left, .bool D.dark, .int .i64 (D.steps : Int)],
        own 32 128 (some ⟨sb, 0, none⟩) D.sure.length sc (flat D.sure), own 71 129 la D.loose.length lc (flatL D.loose), bk r 32 (cb zblk), exact x])
      (fun i => i ≤ D.loose.length) (fun i => D.loose.length - i) 0 (Nat.zero_le _) ⟨rfl, rfl, rfl, rfl, rfl, trivial⟩ (by exact selA) ?_
    intro i hi
    have hvw : ∀ j, WB (valOf D.sure (D.loose.take j) k) := fun j => valOf_WB h.wb (fun q hq => hlb q (List.mem_of_mem_take hq)) hk
    by_cases hlt : i < D.loose.length
    · have hs := valOf_succ D.sure D.loose k i hlt
      have hb' : WB D.loose[i].2 := hlb _ (by simp)
      refine wk ?_
      (refine CX.indexOA (i) ?_ ?_; (· exact hlt); rintro g rfl)
      refine wk ?_
      (apply CX.ps; (· apply PS.load (v := .int .i64 (D.loose[i].1 : Int)); (· rfl); (· rfl); (· exact CellAt.own (by first | exact pickA | exact updA) (flatL_n _ hlb i hlt))))
      by_cases he : D.loose[i].1 = k
      · have he' : (D.loose[i].1 : Int) = k := by omega
        rw [if_pos he] at hs
        refine wk ?_
        (refine CX.indexA (i) ?_ ?_; (· exact hlt))
        refine wk ?_
        (apply CX.ps; (· apply PS.loadG (vs := cb D.loose[i].2); (· rfl); (· rfl); (· exact CellsAt.own (by first | exact pickA | exact updA) (by rw [hb'.len, Nat.zero_add]; exact flatL_b _ hlb i hlt)); (· exact hb'.len)))
        (apply CX.storeAll; (· rfl); (· rfl); (· rfl); (· first | exact pickA | exact updA); (· exact hb'.len); (· exact (hvw i).len); (· exact one_cb _))
        rw [← hs]
        refine wk ?_
        exact CQ.round (i + 1) hlt (by omega) ⟨eqI (by omega), rfl, rfl, rfl, rfl, trivial⟩ (by exact selA)
      · have he' : ¬ (D.loose[i].1 : Int) = k := by omega
        rw [if_neg he] at hs
        rw [← hs]
        refine wk ?_
        exact CQ.round (i + 1) hlt (by omega) ⟨eqI (by omega), rfl, rfl, rfl, rfl, trivial⟩ (by exact selA)
    · obtain rfl : i = D.loose.length := by omega
      have hw := hvw D.loose.length
      rw [List.take_length] at hw ⊢
      rw [hr]
      refine wk ?_
      ((apply CX.ps; (· apply PS.loadG (vs := cb (valOf D.sure D.loose k)); (· rfl); (· rfl); (· exact CellsAt.all (by first | exact pickA | exact updA)); (· exact hw.len))))
      (apply CX.storeAll; (· rfl); (· rfl); (· rfl); (· first | exact pickA | exact updA); (· exact hw.len); (· exact WB_z.len); (· exact one_cb _))
      refine wk ?_
      (refine CQ.shutL (rdisk_eq p D) (_, _, _, _) trivial (by exact selA) ?_)
      ((apply CQ.end2; (· rfl); (· exact .cells inferInstance rfl (CellsAt.all (by first | exact pickA | exact updA)) (hw.len)); (· exact .tmp rfl)); (· exact ⟨rfl, rfl⟩); (· exact selA))
  · refine wk ?_
    (apply CX.ps; (· apply PS.buildZ (vs := cb zblk); (· rfl); (· simp [cb_z, Value.cells])))
    refine wk ?_
    (apply CX.storeAll; (· rfl); (· rfl); (· rfl); (· first | exact pickA | exact updA); (· exact WB_z.len); (· exact WB_z.len); (· exact one_cb _))
    refine wk ?_
    ((apply CQ.end2; (· rfl); (· exact .cells inferInstance rfl (CellsAt.all (by first | exact pickA | exact updA)) (WB_z.len)); (· exact .tmp rfl)); (· exact ⟨by simp [DS.read, h0], rfl⟩); (· exact selA))
theorem rcrash_c (p : Nat) (D : DS) (picks : List Int) (a : Option Addr) (c : Nat) {N : Nat} (h : D.wf N) (hN : N < 1000000) : Ctr Tryz.prog 19 [.pointer (some ⟨p, 0, none⟩), .slice a picks.length c] [rdisk p D] (rdx a picks.length (picks.map (Value.int .i64))) (fun v M => v = .int .i64 0 ∧ M = [rdisk p (D.crash picks)]) := by
  have hlo := h.loose
  have hlb : ∀ p ∈ D.loose, WB p.2 := fun p hp => (h.lb p hp).2
  refine Ctr.intro Tryz.func19 rfl Tryz.ntmps19 rfl fun x w hp => ?_
  (refine CC.openL (rdisk_eq p _) (by first | exact pickA | exact updA) ?_; rintro ⟨sb, sc, la, lc⟩ -)
  refine wk ?_
  refine CC.loop (X := Nat) (fun i => [(5, .int .i64 (i : Int)), (0, .pointer (some ⟨p, 0, none⟩)), (1, .slice a picks.length c)])
    (fun i => [bk p 64 [.slice (some ⟨sb, 0, none⟩) D.sure.length sc, .slice la D.loose.length lc, .int .i64 D.left, .bool D.dark, .int .i64 (D.steps : Int)],
      own 32 128 (some ⟨sb, 0, none⟩) D.sure.length sc (flat (settleL D.sure picks 0 0 (D.loose.take i))), own 71 129 la D.loose.length lc (flatL D.loose), exact x])
    (fun i => i ≤ D.loose.length) (fun i => D.loose.length - i) 0 (Nat.zero_le _) ⟨rfl, rfl, rfl, trivial⟩ (by exact selA) ?_
  intro i hi
  by_cases hlt : i < D.loose.length
  · have hwb := hlb D.loose[i] (by simp)
    have hin := (h.lb D.loose[i] (by simp)).1
    have hSw := settleL_WB picks 0 (D.loose.take i) D.sure 0 h.wb (fun q hq => h.lb q (List.mem_of_mem_take hq))
    have hSl' : (settleL D.sure picks 0 0 (D.loose.take i)).length = D.sure.length := length_settleL _ _ _ _ _
    have hsnoc : settleL D.sure picks 0 0 (D.loose.take (i + 1)) = (settleL D.sure picks 0 0 (D.loose.take i)).set D.loose[i].1 (torn ((settleL D.sure picks 0 0 (D.loose.take i)).getD D.loose[i].1 []) D.loose[i].2 (pickAt picks 0 i)) := by
      rw [List.take_succ_eq_append_getElem hlt, settleL_snoc, List.length_take, Nat.zero_add, Nat.min_eq_left hi]
    generalize settleL D.sure picks 0 0 (D.loose.take i) = SS at *
    refine CC.fact (p := ∃ g, la = some ⟨g, 0, none⟩) (fun h hs => ?_) fun hla => ?_
    · rcases own_some (Pick.ok (show Pick (own 71 129 la D.loose.length lc (flatL D.loose)) _ _ from by first | exact pickA | exact updA) hs) with ⟨_, h0, _⟩ | hh
      · omega
      · exact hh
    obtain ⟨g, rfl⟩ := hla
    refine wk ?_
    refine CC.join (X := Int) (fun z => [(6, .int .i64 z), (5, .int .i64 (i : Int)), (0, .pointer (some ⟨p, 0, none⟩)), (1, .slice a picks.length c)])
      (fun z => [bk p 64 [.slice (some ⟨sb, 0, none⟩) D.sure.length sc, .slice (some ⟨g, 0, none⟩) D.loose.length lc, .int .i64 D.left, .bool D.dark, .int .i64 (D.steps : Int)],
      own 32 128 (some ⟨sb, 0, none⟩) D.sure.length sc (flat SS), own 71 129 (some ⟨g, 0, none⟩) D.loose.length lc (flatL D.loose), exact x]) (fun z => (min (max z 0) 128).toNat = pickAt picks 0 i) ?_ ?_
    · by_cases hpk : i < picks.length
      · rcases hp with h0 | ⟨pg, off, cs, pt, fr, rfl, hx, hcs⟩
        · omega
        have hz : picks[i]? = some picks[i] := by simp [hpk]
        refine wk ?_
        (refine CX.indexA (i) ?_ ?_; (· exact hpk))
        (apply CX.ps; (· apply PS.load (v := .int .i64 picks[i]); (· rfl); (· rfl); (· exact CellAt.exact (by first | exact pickA | exact updA) ⟨cs, pt, fr, hx, by rw [Nat.mul_one]; exact hcs i _ (by simp [hpk])⟩)))
        refine wk ?_
        exact CQ.joined picks[i] (by simp only [pickAt, hz]) ⟨rfl, rfl, rfl, rfl, trivial⟩ (by exact selA)
      · have hz : picks[i]? = none := by simp; omega
        refine wk ?_
        exact CQ.joined 0 (by simp only [pickAt, hz]; rfl) ⟨rfl, rfl, rfl, rfl, trivial⟩ (by exact selA)
    · intro z hz
      have hg1 : WB (SS.getD D.loose[i].1 []) := getD_WB hSw (by omega)
      refine CC.draw [(0, 0), (1, 0), (2, 0), (3, 1), (4, 0), (5, 0), (6, 0), (7, 1), (8, 0), (9, 0), (10, 0), (11, 1), (12, 0), (13, 0), (14, 0), (15, 1), (16, 0), (17, 0), (18, 0), (19, 1), (20, 0), (21, 0), (22, 0), (23, 1), (24, 0), (25, 1), (26, 0), (27, 0), (28, 0), (29, 1), (30, 0), (31, 0), (32, 0), (33, 1), (34, 0), (35, 2), (36, 0), (37, 3)] mixed rfl (by kernel_rfl) (by kernel_rfl) [bk p 64 [.slice (some ⟨sb, 0, none⟩) D.sure.length sc, .slice (some ⟨g, 0, none⟩) D.loose.length lc, .int .i64 D.left, .bool D.dark, .int .i64 (D.steps : Int)], own 32 128 (some ⟨sb, 0, none⟩) D.sure.length sc (flat SS), own 71 129 (some ⟨g, 0, none⟩) D.loose.length lc (flatL D.loose)] ?_
      refine hwk ?_
      (apply CH.pure; (· rfl); (· apply PS.indexAddr (j := i); (· rfl); (· rfl); (· rfl); (· rfl); (· exact hlt)))
      refine hwk ?_
      (apply CH.read; (· rfl); (· apply PS.load (v := .int .i64 (D.loose[i].1 : Int)); (· rfl); (· rfl); (· exact CellAt.own (by first | exact pickA | exact updA) (by rw [Nat.zero_add, Nat.add_zero]; exact flatL_n _ hlb i hlt))); (· exact selA))
      refine hwk ?_
      (apply CH.pure; (· rfl); (· apply PS.indexAddr (j := i); (· rfl); (· rfl); (· rfl); (· rfl); (· exact hlt)))
      refine hwk ?_
      (apply CH.read; (· rfl); (· apply PS.load (v := .int .i64 (D.loose[i].1 : Int)); (· rfl); (· rfl); (· exact CellAt.own (by first | exact pickA | exact updA) (by rw [Nat.zero_add, Nat.add_zero]; exact flatL_n _ hlb i hlt))); (· exact selA))
      (apply CH.pure; (· rfl); (· apply PS.indexAddr (j := D.loose[i].1); (· rfl); (· rfl); (· rfl); (· rfl); (· exact hin)))
      (apply CH.read; (· rfl); (· apply PS.loadG (vs := cb (SS.getD D.loose[i].1 [])); (· rfl); (· rfl); (· exact CellsAt.own (by first | exact pickA | exact updA) (flat_get hSw (by omega))); (· exact hg1.len)); (· exact selA))
      refine hwk ?_
      (apply CH.pure; (· rfl); (· apply PS.indexAddr (j := i); (· rfl); (· rfl); (· rfl); (· rfl); (· exact hlt)))
      refine hwk ?_
      (apply CH.read; (· rfl); (· apply PS.loadG (vs := cb D.loose[i].2); (· rfl); (· rfl); (· exact CellsAt.own (by first | exact pickA | exact updA) (by rw [hwb.len, Nat.zero_add]; exact flatL_b _ hlb i hlt)); (· exact hwb.len)); (· exact selA))
      refine hwk ?_
      refine CH.chain rfl fun K hK => ?_
      refine CX.callA (rtorn_c (SS.getD D.loose[i].1 []) D.loose[i].2 hg1 hwb z) ?_
      rintro _ _ ⟨rfl, rfl⟩
      rw [hz]
      (refine CX.nil ?_; refine CQ.thenK ?_; apply hK; (· exact selA); clear hK K)
      (apply CH.pure; (· rfl); (· apply PS.indexAddr (j := D.loose[i].1); (· rfl); (· rfl); (· rfl); (· rfl); (· exact hin)))
      have hpm : pickAt picks 0 i ≤ 128 := by simp only [pickAt]; split <;> omega
      have htw := torn_WB (n := pickAt picks 0 i) hg1 hwb
      refine CH.tail rfl rfl fun K hK => ?_
      apply CX.storeOwn (v := .agg (cb (torn (SS.getD D.loose[i].1 []) D.loose[i].2 (pickAt picks 0 i))).toArray)
      · rfl
      · rfl
      · rfl
      · show (cb _).toArray.size = 128
        rw [List.size_toArray]; exact htw.len
      · simpa [Value.cells] using one_cb _
      · first | exact pickA | exact updA
      · omega
      have e1 : setL (flat SS) (0 + D.loose[i].1 * 128) (Value.agg (cb (torn (SS.getD D.loose[i].1 []) D.loose[i].2 (pickAt picks 0 i))).toArray).cells.toList = flat (settleL D.sure picks 0 0 (D.loose.take (i + 1))) := by
        have := flat_set hSw (k := D.loose[i].1) (by omega) (torn (SS.getD D.loose[i].1 []) D.loose[i].2 (pickAt picks 0 i)) 128 (Nat.le_refl _) htw
        rw [List.take_of_length_le (by rw [htw]; omega)] at this
        have e3 := torn_all hg1 htw
        rw [e3] at this
        rw [hsnoc, ← this, Nat.zero_add]; rfl
      rw [e1]
      clear e1
      (refine CX.nil ?_; refine CQ.thenK ?_; apply hK; clear hK K)
      refine hwk ?_
      refine wk ?_
      exact CQ.round (i + 1) hlt (by omega) ⟨eqI (by omega), rfl, rfl, trivial⟩ (by exact selA)
  · obtain rfl : i = D.loose.length := by omega
    refine wk ?_
    refine CQ.ownNil 71 129 ?_
    have e2 : D.sure.length = (D.crash picks).sure.length := by simp [DS.crash, DS.settle, length_settleL]
    rw [e2, List.take_length]
    (refine CQ.shutL (rdisk_eq p (D.crash picks)) (_, _, _, _) trivial (by exact selA) ?_)
    ((apply CQ.end1; (· rfl); (· exact .tmp rfl)); (· exact ⟨rfl, rfl⟩); (· exact selA))
theorem rrot_c (p : Nat) (D : DS) (n at_ : Int) (y : UInt8) {N : Nat} (h : D.wf N) (hN : N < 1000000) : Ctr Tryz.prog 47 [.pointer (some ⟨p, 0, none⟩), .int .i64 n, .int .i64 at_, .int .u8 y.toNat] [rdisk p D] (fun _ => True) (fun v M => v = .int .i64 (D.rot n at_ y).1 ∧ M = [rdisk p (D.rot n at_ y).2]) := by
  refine Ctr.intro Tryz.func47 rfl Tryz.ntmps47 rfl fun x w hp => ?_
  (refine CC.openL (rdisk_eq p _) (by first | exact pickA | exact updA) ?_; rintro ⟨sb, sc, la, lc⟩ -)
  by_cases hn : n < 0
  · have e : D.rot n at_ y = (2, D) := by
      have : D.there n = 2 := by unfold DS.there errOf; rw [if_neg (by omega)]
      simp [DS.rot, this]
    rw [e]
    refine wk ?_
    (refine CQ.shutL (rdisk_eq p D) (_, _, _, _) trivial (by exact selA) ?_)
    ((apply CQ.end1; (· rfl); (· exact .tmp rfl)); (· exact ⟨rfl, rfl⟩); (· exact selA))
  by_cases hn2 : (D.sure.length : Int) ≤ n
  · have e : D.rot n at_ y = (2, D) := by
      have : D.there n = 2 := by unfold DS.there errOf; rw [if_neg (by omega)]
      simp [DS.rot, this]
    rw [e]
    refine wk ?_
    (refine CQ.shutL (rdisk_eq p D) (_, _, _, _) trivial (by exact selA) ?_)
    ((apply CQ.end1; (· rfl); (· exact .tmp rfl)); (· exact ⟨rfl, rfl⟩); (· exact selA))
  have h0 : D.there n = 0 := by unfold DS.there errOf; rw [if_pos (by omega)]
  obtain ⟨k, rfl, hk⟩ := there_ok h0
  by_cases h1 : at_ < 0
  · have e : D.rot k at_ y = (2, D) := by simp [DS.rot, h0, h1]
    rw [e]
    refine wk ?_
    (refine CQ.shutL (rdisk_eq p D) (_, _, _, _) trivial (by exact selA) ?_)
    ((apply CQ.end1; (· rfl); (· exact .tmp rfl)); (· exact ⟨rfl, rfl⟩); (· exact selA))
  by_cases h2 : 128 ≤ at_
  · have e : D.rot k at_ y = (2, D) := by simp [DS.rot, h0, h2]
    rw [e]
    refine wk ?_
    (refine CQ.shutL (rdisk_eq p D) (_, _, _, _) trivial (by exact selA) ?_)
    ((apply CQ.end1; (· rfl); (· exact .tmp rfl)); (· exact ⟨rfl, rfl⟩); (· exact selA))
  obtain ⟨q, rfl⟩ : ∃ q : Nat, at_ = q := ⟨at_.toNat, by omega⟩
  have e : D.rot k q y = (0, { D with sure := D.sure.set k ((D.sure.getD k []).set q ((D.sure.getD k []).getD q 0 ^^^ y)) }) := by simp [DS.rot, h0, h1, h2]
  refine wk ?_
  refine CC.draw [(0, 0), (1, 0), (2, 0), (3, 1), (4, 0), (5, 0), (6, 0), (7, 0), (8, 0), (9, 1), (10, 0), (11, 0), (12, 0), (13, 0), (14, 1), (15, 0), (16, 0), (17, 0), (18, 0), (19, 3)] mixed rfl (by kernel_rfl) (by kernel_rfl) [bk p 64 [.slice (some ⟨sb, 0, none⟩) D.sure.length sc, .slice la D.loose.length lc, .int .i64 D.left, .bool D.dark, .int .i64 (D.steps : Int)], own 32 128 (some ⟨sb, 0, none⟩) D.sure.length sc (flat D.sure)] ?_
  refine hwk ?_
  have hb : WB D.sure[k] := h.wb _ (by simp)
  have hq : q < 128 := by omega
  have hg : D.sure.getD k [] = D.sure[k] := by simp [hk]
  have hgq : (D.sure[k] : Blk).getD q 0 = D.sure[k][q]'(by rw [hb]; exact hq) := by simp [show q < (D.sure[k] : Blk).length by rw [hb]; exact hq]
  have hv : (flat D.sure)[0 + k * 128 + q * 1]? = some (.int .u8 (((D.sure[k] : Blk).getD q 0).toNat : Int)) := by
    have := rows_at cb 128 D.sure (fun x hx => (h.wb x hx).len) k hk q hq
    rw [Nat.zero_add, Nat.mul_one, flat, this, hgq, cb_get _ _ (by rw [hb]; exact hq)]
  rw [hg] at e
  have e1 := flat_set1 h.wb hk hq ((D.sure[k] : Blk).getD q 0 ^^^ y)
  rw [hg] at e1
  generalize (D.sure[k] : Blk).getD q 0 = old at hv e e1
  (apply CH.pure; (· rfl); (· apply PS.indexAddr (j := k); (· rfl); (· rfl); (· rfl); (· rfl); (· exact hk)))
  (apply CH.pure; (· rfl); (· apply PS.indexArr (j := q); (· rfl); (· rfl); (· rfl); (· rfl); (· exact hq)))
  (apply CH.read; (· rfl); (· apply PS.load (v := .int .u8 (old.toNat : Int)); (· rfl); (· rfl); (· exact CellAt.own (by first | exact pickA | exact updA) hv)); (· exact selA))
  refine hwk ?_
  (apply CH.pure; (· rfl); (· apply PS.xorN (k := .u8) old.toNat y.toNat rfl (UInt8.toNat_lt old) (UInt8.toNat_lt y) <;> rfl))
  (apply CH.pure; (· rfl); (· apply PS.indexAddr (j := k); (· rfl); (· rfl); (· rfl); (· rfl); (· exact hk)))
  (apply CH.pure; (· rfl); (· apply PS.indexArr (j := q); (· rfl); (· rfl); (· rfl); (· rfl); (· exact hq)))
  refine CH.tail rfl rfl fun K hK => ?_
  apply CX.storeOwn (v := .int .u8 ((old ^^^ y).toNat : Int))
  · rfl
  · rfl
  · rw [UInt8.toNat_xor]; rfl
  · rfl
  · intro u hu; simp [Value.cells] at hu; rw [hu]; rfl
  · first | exact pickA | exact updA
  · omega
  (refine CX.nil ?_; refine CQ.thenK ?_; apply hK; clear hK K)
  refine hwk ?_
  refine wk ?_
  have e2 : setL (flat D.sure) (0 + k * 128 + q * 1) (Value.int .u8 ((old ^^^ y).toNat : Int)).cells.toList = flat (D.sure.set k (List.set (D.sure[k] : Blk) q (old ^^^ y))) := by
    rw [Nat.zero_add, Nat.mul_one]; exact e1
  have e3 : D.sure.length = (D.sure.set k (List.set (D.sure[k] : Blk) q (old ^^^ y))).length := by simp
  rw [e2, e, e3]
  (refine CQ.shutL (rdisk_eq p ({ D with sure := D.sure.set k (List.set (D.sure[k] : Blk) q (old ^^^ y)) })) (sb, sc, la, lc) trivial (by exact selA) ?_)
  ((apply CQ.end1; (· rfl); (· exact .tmp rfl)); (· exact ⟨rfl, rfl⟩); (· exact selA))
end Go.Proofs.YtlckhaodecdbbaaGreat
/-! The disk's methods where there is none, or where it holds no block. -/
namespace Go.Proofs.YtlckhaodecdbbaaGreat
open Go.Cx
attribute [local irreducible] Go.Cx.CX Go.Cx.CC Go.Cx.CQ Go.Cx.PS Go.Cx.Ctr Go.Cx.CH
set_option maxRecDepth 10000

def nptr (z : Option Nat) : Value := .pointer (z.map fun p => ⟨p, 0, none⟩)
def nres (z : Option Nat) : List Assn := match z with | none => [] | some p => [bk p 61 [.slice none 0 0, .slice none 0 0, .int .i64 0, .int .i64 0, .bool false]]
theorem noneN_c (z : Option Nat) : Ctr Tryz.prog 36 [nptr z] (nres z) (fun _ => True) (fun v M => v = .bool true ∧ M = nres z) := by
  rcases z with _ | p
  · simp only [nptr, nres, Option.map_none]
    refine Ctr.intro Tryz.func36 rfl Tryz.ntmps36 rfl fun x w hp => ?_
    refine wk ?_
    ((apply CQ.end1; (· rfl); (· exact .tmp rfl)); (· exact ⟨rfl, rfl⟩); (· exact selA))
  · simp only [nptr, nres, Option.map_some]
    refine Ctr.intro Tryz.func36 rfl Tryz.ntmps36 rfl fun x w hp => ?_
    refine wk ?_
    ((apply CQ.end1; (· rfl); (· exact .tmp rfl)); (· exact ⟨rfl, rfl⟩); (· exact selA))
theorem thereN_c (z : Option Nat) (n : Int) : Ctr Tryz.prog 50 [nptr z, .int .i64 n] (nres z) (fun _ => True) (fun v M => v = .int .i64 1 ∧ M = nres z) := by
  rcases z with _ | p <;> simp only [nptr, nres, Option.map_none, Option.map_some]
  · refine Ctr.intro Tryz.func50 rfl Tryz.ntmps50 rfl fun x w hp => ?_
    refine wk ?_
    refine CX.callA (noneN_c none) ?_
    rintro _ _ ⟨rfl, rfl⟩
    refine wk ?_
    ((apply CQ.end1; (· rfl); (· exact .tmp rfl)); (· exact ⟨rfl, rfl⟩); (· exact selA))
  · refine Ctr.intro Tryz.func50 rfl Tryz.ntmps50 rfl fun x w hp => ?_
    refine wk ?_
    refine CX.callA (noneN_c (some p)) ?_
    rintro _ _ ⟨rfl, rfl⟩
    refine wk ?_
    ((apply CQ.end1; (· rfl); (· exact .tmp rfl)); (· exact ⟨rfl, rfl⟩); (· exact selA))
theorem litN_c (z : Option Nat) (n : Int) : Ctr Tryz.prog 22 [nptr z, .int .i64 n] (nres z) (fun _ => True) (fun v M => v = .int .i64 1 ∧ M = nres z) := by
  rcases z with _ | p <;> simp only [nptr, nres, Option.map_none, Option.map_some]
  · refine Ctr.intro Tryz.func22 rfl Tryz.ntmps22 rfl fun x w hp => ?_
    refine wk ?_
    refine CX.callA (noneN_c none) ?_
    rintro _ _ ⟨rfl, rfl⟩
    refine wk ?_
    refine CX.callA (thereN_c none n) ?_
    rintro _ _ ⟨rfl, rfl⟩
    refine wk ?_
    ((apply CQ.end1; (· rfl); (· exact .tmp rfl)); (· exact ⟨rfl, rfl⟩); (· exact selA))
  · refine Ctr.intro Tryz.func22 rfl Tryz.ntmps22 rfl fun x w hp => ?_
    refine wk ?_
    refine CX.callA (noneN_c (some p)) ?_
    rintro _ _ ⟨rfl, rfl⟩
    refine wk ?_
    refine CX.callA (thereN_c (some p) n) ?_
    rintro _ _ ⟨rfl, rfl⟩
    refine wk ?_
    ((apply CQ.end1; (· rfl); (· exact .tmp rfl)); (· exact ⟨rfl, rfl⟩); (· exact selA))
theorem readN_c (z : Option Nat) (n : Int) : Ctr Tryz.prog 73 [nptr z, .int .i64 n] (nres z) (fun _ => True) (fun v M => v = .tuple #[.agg (cb zblk).toArray, .int .i64 1] ∧ M = nres z) := by
  rcases z with _ | p <;> simp only [nptr, nres, Option.map_none, Option.map_some]
  · refine Ctr.intro Tryz.func73 rfl Tryz.ntmps73 rfl fun x w hp => ?_
    refine wk ?_
    (refine CX.allocZ (cb zblk) ?_; intro r)
    refine wk ?_
    refine CX.callA (litN_c none n) ?_
    rintro _ _ ⟨rfl, rfl⟩
    refine wk ?_
    (apply CX.ps; (· apply PS.buildZ (vs := cb zblk); (· rfl); (· simp [cb_z, Value.cells])))
    refine wk ?_
    (apply CX.storeAll; (· rfl); (· rfl); (· rfl); (· first | exact pickA | exact updA); (· exact WB_z.len); (· exact WB_z.len); (· exact one_cb _))
    refine wk ?_
    ((apply CQ.end2; (· rfl); (· exact .cells inferInstance rfl (CellsAt.all (by first | exact pickA | exact updA)) (WB_z.len)); (· exact .tmp rfl)); (· exact ⟨rfl, rfl⟩); (· exact selA))
  · refine Ctr.intro Tryz.func73 rfl Tryz.ntmps73 rfl fun x w hp => ?_
    refine wk ?_
    (refine CX.allocZ (cb zblk) ?_; intro r)
    refine wk ?_
    refine CX.callA (litN_c (some p) n) ?_
    rintro _ _ ⟨rfl, rfl⟩
    refine wk ?_
    (apply CX.ps; (· apply PS.buildZ (vs := cb zblk); (· rfl); (· simp [cb_z, Value.cells])))
    refine wk ?_
    (apply CX.storeAll; (· rfl); (· rfl); (· rfl); (· first | exact pickA | exact updA); (· exact WB_z.len); (· exact WB_z.len); (· exact one_cb _))
    refine wk ?_
    ((apply CQ.end2; (· rfl); (· exact .cells inferInstance rfl (CellsAt.all (by first | exact pickA | exact updA)) (WB_z.len)); (· exact .tmp rfl)); (· exact ⟨rfl, rfl⟩); (· exact selA))
theorem sureN_c (z : Option Nat) (n : Int) : Ctr Tryz.prog 20 [nptr z, .int .i64 n] (nres z) (fun _ => True) (fun v M => v = .tuple #[.agg (cb zblk).toArray, .int .i64 1] ∧ M = nres z) := by
  rcases z with _ | p <;> simp only [nptr, nres, Option.map_none, Option.map_some]
  · refine Ctr.intro Tryz.func20 rfl Tryz.ntmps20 rfl fun x w hp => ?_
    refine wk ?_
    (refine CX.allocZ (cb zblk) ?_; intro r)
    refine wk ?_
    refine CX.callA (thereN_c none n) ?_
    rintro _ _ ⟨rfl, rfl⟩
    refine wk ?_
    (apply CX.ps; (· apply PS.buildZ (vs := cb zblk); (· rfl); (· simp [cb_z, Value.cells])))
    refine wk ?_
    (apply CX.storeAll; (· rfl); (· rfl); (· rfl); (· first | exact pickA | exact updA); (· exact WB_z.len); (· exact WB_z.len); (· exact one_cb _))
    refine wk ?_
    ((apply CQ.end2; (· rfl); (· exact .cells inferInstance rfl (CellsAt.all (by first | exact pickA | exact updA)) (WB_z.len)); (· exact .tmp rfl)); (· exact ⟨rfl, rfl⟩); (· exact selA))
  · refine Ctr.intro Tryz.func20 rfl Tryz.ntmps20 rfl fun x w hp => ?_
    refine wk ?_
    (refine CX.allocZ (cb zblk) ?_; intro r)
    refine wk ?_
    refine CX.callA (thereN_c (some p) n) ?_
    rintro _ _ ⟨rfl, rfl⟩
    refine wk ?_
    (apply CX.ps; (· apply PS.buildZ (vs := cb zblk); (· rfl); (· simp [cb_z, Value.cells])))
    refine wk ?_
    (apply CX.storeAll; (· rfl); (· rfl); (· rfl); (· first | exact pickA | exact updA); (· exact WB_z.len); (· exact WB_z.len); (· exact one_cb _))
    refine wk ?_
    ((apply CQ.end2; (· rfl); (· exact .cells inferInstance rfl (CellsAt.all (by first | exact pickA | exact updA)) (WB_z.len)); (· exact .tmp rfl)); (· exact ⟨rfl, rfl⟩); (· exact selA))
theorem flushN_c (z : Option Nat)  : Ctr Tryz.prog 83 [nptr z] (nres z) (fun _ => True) (fun v M => v = .int .i64 1 ∧ M = nres z) := by
  rcases z with _ | p <;> simp only [nptr, nres, Option.map_none, Option.map_some]
  · refine Ctr.intro Tryz.func83 rfl Tryz.ntmps83 rfl fun x w hp => ?_
    refine wk ?_
    refine CX.callA (litN_c none 0) ?_
    rintro _ _ ⟨rfl, rfl⟩
    refine wk ?_
    ((apply CQ.end1; (· rfl); (· exact .tmp rfl)); (· exact ⟨rfl, rfl⟩); (· exact selA))
  · refine Ctr.intro Tryz.func83 rfl Tryz.ntmps83 rfl fun x w hp => ?_
    refine wk ?_
    refine CX.callA (litN_c (some p) 0) ?_
    rintro _ _ ⟨rfl, rfl⟩
    refine wk ?_
    ((apply CQ.end1; (· rfl); (· exact .tmp rfl)); (· exact ⟨rfl, rfl⟩); (· exact selA))
theorem armN_c (z : Option Nat) (n : Int) : Ctr Tryz.prog 44 [nptr z, .int .i64 n] (nres z) (fun _ => True) (fun v M => v = .int .i64 1 ∧ M = nres z) := by
  rcases z with _ | p <;> simp only [nptr, nres, Option.map_none, Option.map_some]
  · refine Ctr.intro Tryz.func44 rfl Tryz.ntmps44 rfl fun x w hp => ?_
    refine wk ?_
    refine CX.callA (litN_c none 0) ?_
    rintro _ _ ⟨rfl, rfl⟩
    refine wk ?_
    ((apply CQ.end1; (· rfl); (· exact .tmp rfl)); (· exact ⟨rfl, rfl⟩); (· exact selA))
  · refine Ctr.intro Tryz.func44 rfl Tryz.ntmps44 rfl fun x w hp => ?_
    refine wk ?_
    refine CX.callA (litN_c (some p) 0) ?_
    rintro _ _ ⟨rfl, rfl⟩
    refine wk ?_
    ((apply CQ.end1; (· rfl); (· exact .tmp rfl)); (· exact ⟨rfl, rfl⟩); (· exact selA))
theorem crashN_c (z : Option Nat) (a : Option Addr) (l c : Nat) : Ctr Tryz.prog 18 [nptr z, .slice a l c] (nres z) (fun _ => True) (fun v M => v = .int .i64 1 ∧ M = nres z) := by
  rcases z with _ | p <;> simp only [nptr, nres, Option.map_none, Option.map_some]
  · refine Ctr.intro Tryz.func18 rfl Tryz.ntmps18 rfl fun x w hp => ?_
    refine wk ?_
    refine CX.callA (noneN_c none) ?_
    rintro _ _ ⟨rfl, rfl⟩
    refine wk ?_
    ((apply CQ.end1; (· rfl); (· exact .tmp rfl)); (· exact ⟨rfl, rfl⟩); (· exact selA))
  · refine Ctr.intro Tryz.func18 rfl Tryz.ntmps18 rfl fun x w hp => ?_
    refine wk ?_
    refine CX.callA (noneN_c (some p)) ?_
    rintro _ _ ⟨rfl, rfl⟩
    refine wk ?_
    ((apply CQ.end1; (· rfl); (· exact .tmp rfl)); (· exact ⟨rfl, rfl⟩); (· exact selA))
theorem rotN_c (z : Option Nat) (n q y : Int) : Ctr Tryz.prog 46 [nptr z, .int .i64 n, .int .i64 q, .int .u8 y] (nres z) (fun _ => True) (fun v M => v = .int .i64 1 ∧ M = nres z) := by
  rcases z with _ | p <;> simp only [nptr, nres, Option.map_none, Option.map_some]
  · refine Ctr.intro Tryz.func46 rfl Tryz.ntmps46 rfl fun x w hp => ?_
    refine wk ?_
    refine CX.callA (thereN_c none n) ?_
    rintro _ _ ⟨rfl, rfl⟩
    refine wk ?_
    ((apply CQ.end1; (· rfl); (· exact .tmp rfl)); (· exact ⟨rfl, rfl⟩); (· exact selA))
  · refine Ctr.intro Tryz.func46 rfl Tryz.ntmps46 rfl fun x w hp => ?_
    refine wk ?_
    refine CX.callA (thereN_c (some p) n) ?_
    rintro _ _ ⟨rfl, rfl⟩
    refine wk ?_
    ((apply CQ.end1; (· rfl); (· exact .tmp rfl)); (· exact ⟨rfl, rfl⟩); (· exact selA))
theorem darkN_c (z : Option Nat)  : Ctr Tryz.prog 16 [nptr z] (nres z) (fun _ => True) (fun v M => v = .bool false ∧ M = nres z) := by
  rcases z with _ | p <;> simp only [nptr, nres, Option.map_none, Option.map_some]
  · refine Ctr.intro Tryz.func16 rfl Tryz.ntmps16 rfl fun x w hp => ?_
    refine wk ?_
    refine CX.callA (noneN_c none) ?_
    rintro _ _ ⟨rfl, rfl⟩
    refine wk ?_
    ((apply CQ.end1; (· rfl); (· exact .tmp rfl)); (· exact ⟨rfl, rfl⟩); (· exact selA))
  · refine Ctr.intro Tryz.func16 rfl Tryz.ntmps16 rfl fun x w hp => ?_
    refine wk ?_
    refine CX.callA (noneN_c (some p)) ?_
    rintro _ _ ⟨rfl, rfl⟩
    refine wk ?_
    ((apply CQ.end1; (· rfl); (· exact .tmp rfl)); (· exact ⟨rfl, rfl⟩); (· exact selA))
theorem blocksN_c (z : Option Nat)  : Ctr Tryz.prog 55 [nptr z] (nres z) (fun _ => True) (fun v M => v = .int .i64 0 ∧ M = nres z) := by
  rcases z with _ | p <;> simp only [nptr, nres, Option.map_none, Option.map_some]
  · refine Ctr.intro Tryz.func55 rfl Tryz.ntmps55 rfl fun x w hp => ?_
    refine wk ?_
    refine CX.callA (noneN_c none) ?_
    rintro _ _ ⟨rfl, rfl⟩
    refine wk ?_
    ((apply CQ.end1; (· rfl); (· exact .tmp rfl)); (· exact ⟨rfl, rfl⟩); (· exact selA))
  · refine Ctr.intro Tryz.func55 rfl Tryz.ntmps55 rfl fun x w hp => ?_
    refine wk ?_
    refine CX.callA (noneN_c (some p)) ?_
    rintro _ _ ⟨rfl, rfl⟩
    refine wk ?_
    ((apply CQ.end1; (· rfl); (· exact .tmp rfl)); (· exact ⟨rfl, rfl⟩); (· exact selA))
theorem stepsN_c (z : Option Nat)  : Ctr Tryz.prog 12 [nptr z] (nres z) (fun _ => True) (fun v M => v = .int .i64 0 ∧ M = nres z) := by
  rcases z with _ | p <;> simp only [nptr, nres, Option.map_none, Option.map_some]
  · refine Ctr.intro Tryz.func12 rfl Tryz.ntmps12 rfl fun x w hp => ?_
    refine wk ?_
    refine CX.callA (noneN_c none) ?_
    rintro _ _ ⟨rfl, rfl⟩
    refine wk ?_
    ((apply CQ.end1; (· rfl); (· exact .tmp rfl)); (· exact ⟨rfl, rfl⟩); (· exact selA))
  · refine Ctr.intro Tryz.func12 rfl Tryz.ntmps12 rfl fun x w hp => ?_
    refine wk ?_
    refine CX.callA (noneN_c (some p)) ?_
    rintro _ _ ⟨rfl, rfl⟩
    refine wk ?_
    ((apply CQ.end1; (· rfl); (· exact .tmp rfl)); (· exact ⟨rfl, rfl⟩); (· exact selA))
theorem writeN_c (z : Option Nat) (n : Int) (b : Blk) : Ctr Tryz.prog 7 [nptr z, .int .i64 n, .agg (cb b).toArray] (nres z) (fun _ => True) (fun v M => v = .int .i64 1 ∧ M = nres z) := by
  rcases z with _ | p <;> simp only [nptr, nres, Option.map_none, Option.map_some]
  · refine Ctr.intro Tryz.func7 rfl Tryz.ntmps7 rfl fun x w hp => ?_
    refine wk ?_
    (refine CX.boxA ?_; intro c)
    refine wk ?_
    refine CX.callA (litN_c none n) ?_
    rintro _ _ ⟨rfl, rfl⟩
    refine wk ?_
    ((apply CQ.end1; (· rfl); (· exact .tmp rfl)); (· exact ⟨rfl, rfl⟩); (· exact selA))
  · refine Ctr.intro Tryz.func7 rfl Tryz.ntmps7 rfl fun x w hp => ?_
    refine wk ?_
    (refine CX.boxA ?_; intro c)
    refine wk ?_
    refine CX.callA (litN_c (some p) n) ?_
    rintro _ _ ⟨rfl, rfl⟩
    refine wk ?_
    ((apply CQ.end1; (· rfl); (· exact .tmp rfl)); (· exact ⟨rfl, rfl⟩); (· exact selA))
end Go.Proofs.YtlckhaodecdbbaaGreat
/-! What the statement DiskNil does, step by step. -/
namespace Go.Proofs.YtlckhaodecdbbaaGreat
open Go.Cx
attribute [local irreducible] Go.Cx.CX Go.Cx.CC Go.Cx.CQ Go.Cx.PS Go.Cx.Ctr Go.Cx.CH
set_option maxRecDepth 10000

/-- An act's cells. -/
def actc (z n q y : Int) (b : Blk) (a : Option Addr) (l c : Nat) : List Value := [.int .i64 z, .int .i64 n, .int .i64 q, .int .u8 y] ++ cb b ++ [.slice a l c]
theorem actc_b {z n q y : Int} {b : Blk} (hb : WB b) {a : Option Addr} {l c : Nat} : ((actc z n q y b a l c).drop (0 + 4)).take (cb b).length = cb b := by
  simp [actc]
theorem actc_s {z n q y : Int} {b : Blk} (hb : WB b) {a : Option Addr} {l c : Nat} : (actc z n q y b a l c)[0 + 132]? = some (.slice a l c) := by
  have := hb.len
  simp only [actc, List.cons_append, List.nil_append, List.getElem?_cons_succ]
  rw [List.getElem?_append_right (by omega), this]; rfl
end Go.Proofs.YtlckhaodecdbbaaGreat
/-! What the statement DiskPlays does, step by step. -/
namespace Go.Proofs.YtlckhaodecdbbaaGreat
open Go.Cx
attribute [local irreducible] Go.Cx.CX Go.Cx.CC Go.Cx.CQ Go.Cx.PS Go.Cx.Ctr Go.Cx.CH
set_option maxRecDepth 10000

/-- A disk after an act. -/
def actD (D : DS) (z n q : Int) (y : UInt8) (b : Blk) (picks : List Int) : DS :=
  if z = 0 then (D.write n b).2 else if z = 1 then D else if z = 2 then D.flush.2 else if z = 3 then (D.arm n).2 else if z = 4 then D.crash picks else if z = 5 then D else (D.rot n q y).2
theorem read_WB {D : DS} {N : Nat} (h : D.wf N) (n : Int) : WB (D.read n).1 := by
  unfold DS.read
  split
  · exact WB_z
  · rename_i h0
    have h0' : D.lit n = 0 := Decidable.not_not.1 h0
    have h1 : D.there n = 0 := by unfold DS.lit at h0'; split at h0'; cases h0'; exact h0'
    obtain ⟨k, rfl, hk⟩ := there_ok h1
    have := valOf_WB (l := D.loose) h.wb (fun p hp => (h.lb p hp).2) hk
    exact this
theorem sureAt_WB {D : DS} {N : Nat} (h : D.wf N) (n : Int) : WB (D.sureAt n).1 := by
  unfold DS.sureAt
  split
  · exact WB_z
  · rename_i h0
    obtain ⟨k, rfl, hk⟩ := there_ok (Decidable.not_not.1 h0)
    exact getD_WB h.wb hk
end Go.Proofs.YtlckhaodecdbbaaGreat
