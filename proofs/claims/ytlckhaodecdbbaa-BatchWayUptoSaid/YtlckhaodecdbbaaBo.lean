/- One change out of bytes (batch.one), in the program. -/
import Derived.Test.YtlckhaodecdbbaaBu
set_option linter.unusedVariables false
set_option linter.unusedSimpArgs false
namespace Go.Cx
theorem one_err {B : Blk} {at_ : Nat} (h : (Cx.rowAt B at_ 16).2.2 ≠ 0) : oneB B at_ = (⟨[], [], false⟩, 0, (Cx.rowAt B at_ 16).2.2) := by unfold oneB; rw [if_pos h]
theorem one_end {B : Blk} {at_ : Nat} (h : (Cx.rowAt B at_ 16).2.2 = 0) (h2 : (Cx.rowAt B at_ 16).2.1 = B.length) : oneB B at_ = (⟨[], [], false⟩, 0, 4) := by unfold oneB; rw [if_neg (by simp [h]), if_pos h2]
theorem one_gone {B : Blk} {at_ : Nat} (h : (Cx.rowAt B at_ 16).2.2 = 0) (h2 : (Cx.rowAt B at_ 16).2.1 ≠ B.length) (h3 : B.getD (Cx.rowAt B at_ 16).2.1 0 = 1) : oneB B at_ = (⟨(Cx.rowAt B at_ 16).1, [], true⟩, (Cx.rowAt B at_ 16).2.1 + 1, 0) := by
  unfold oneB; rw [if_neg (by simp [h]), if_neg h2, h3]; rfl
theorem one_val {B : Blk} {at_ : Nat} (h : (Cx.rowAt B at_ 16).2.2 = 0) (h2 : (Cx.rowAt B at_ 16).2.1 ≠ B.length) (h3 : B.getD (Cx.rowAt B at_ 16).2.1 0 = 0) : oneB B at_ = (⟨(Cx.rowAt B at_ 16).1, (Cx.rowAt B ((Cx.rowAt B at_ 16).2.1 + 1) 1048576).1, false⟩, (Cx.rowAt B ((Cx.rowAt B at_ 16).2.1 + 1) 1048576).2) := by
  unfold oneB; rw [if_neg (by simp [h]), if_neg h2, h3]; rfl
theorem one_form {B : Blk} {at_ : Nat} (h : (Cx.rowAt B at_ 16).2.2 = 0) (h2 : (Cx.rowAt B at_ 16).2.1 ≠ B.length) (h3 : B.getD (Cx.rowAt B at_ 16).2.1 0 ≠ 1) (h4 : B.getD (Cx.rowAt B at_ 16).2.1 0 ≠ 0) : oneB B at_ = (⟨(Cx.rowAt B at_ 16).1, [], false⟩, 0, 5) := by
  unfold oneB; rw [if_neg (by simp [h]), if_neg h2]
  split <;> first | contradiction | rfl
theorem u8_int {x y : UInt8} (h : x = y) : (x.toNat : Int) = y.toNat := by rw [h]
theorem u8_ne {x y : UInt8} (h : x ≠ y) : ¬ (x.toNat : Int) = y.toNat := fun e => h (UInt8.toNat_inj.1 (by omega))
def GotOne (e : TypeId) (r : ChM × Nat × Int) (v : Value) (M : List Assn) : Prop :=
  ∃ a c, v = .tuple #[.agg (ChV.cells ⟨r.1.key, ⟨a, r.1.val, c⟩, r.1.gone⟩).toArray, .int .i64 (r.2.1 : Int), .int .i64 r.2.2] ∧ M = [own e 1 a r.1.val.length c (cb r.1.val)]
end Go.Cx
namespace Go.Proofs.Ytlckhaodecdbbaa
open Go.Cx
attribute [local irreducible] Go.Cx.CX Go.Cx.CC Go.Cx.CQ Go.Cx.PS Go.Cx.Ctr Go.Cx.CH
set_option maxRecDepth 10000
theorem one_c (B : Blk) (hB : B.length ≤ 70368744000000) (a : Option Addr) (cap : Nat) (hcap : B.length ≤ cap) (at_ : Nat) (hat : at_ ≤ 70368744000000) : Ctr Try.prog 122 [.slice a B.length cap, .int .i64 (at_ : Int)] [] (fun x => rdx a B.length (cb B) x)
    (GotOne 5 (oneB B at_)) := by
  unfold GotOne
  refine Ctr.intro Try.func122 rfl Try.ntmps122 rfl fun x w hp => ?_
  repeat (first | refine CX.psA ?_ | refine CX.nil ?_ | refine CQ.thenN ?_ | refine CQ.thenR ?_ | refine CQ.thenX ?_ | refine CQ.blockN ?_ | refine CQ.blockR ?_ | refine CQ.blockX ?_ | refine CQ.blockYA ?_ | refine CC.seq ?_ | refine CC.block ?_ | refine CC.region ?_ | refine CC.skip ?_ | refine CC.ret ?_ | refine CC.exit ?_ | refine CC.condTA ?_ | refine CC.condFA ?_ | refine CC.condDTA ?_ | refine CC.condDFA ?_ | refine CX.storeA ?_ | refine CX.skipA ?_)
  refine CX.allocZ [sv [], .slice none 0 0, .bool false] ?_ (hv := rfl)
  intro b
  repeat (first | refine CX.psA ?_ | refine CX.nil ?_ | refine CQ.thenN ?_ | refine CQ.thenR ?_ | refine CQ.thenX ?_ | refine CQ.blockN ?_ | refine CQ.blockR ?_ | refine CQ.blockX ?_ | refine CQ.blockYA ?_ | refine CC.seq ?_ | refine CC.block ?_ | refine CC.region ?_ | refine CC.skip ?_ | refine CC.ret ?_ | refine CC.exit ?_ | refine CC.condTA ?_ | refine CC.condFA ?_ | refine CC.condDTA ?_ | refine CC.condDFA ?_ | refine CX.storeA ?_ | refine CX.skipA ?_)
  refine CX.callA (getrow_c B (by omega) a cap hcap at_ 16 (by omega) (by omega)) ?_ (hpre := by exact rdx_ex (by repeat (first | exact .head _ | apply Pick.tail | apply Upd.tail)) hp)
  rintro _ _ ⟨a1, c1, rfl, rfl⟩
  by_cases h1 : (Cx.rowAt B at_ 16).2.2 = 0
  · obtain ⟨hd, hnx, hle, hk16, hal⟩ := rowAt_inv (b := B) (r := (Cx.rowAt B at_ 16).1) (at_ := at_) (most := 16) (nx := (Cx.rowAt B at_ 16).2.1) (by rw [← h1])
    by_cases h2 : (Cx.rowAt B at_ 16).2.1 = B.length
    · rw [one_end h1 h2, h1]
      generalize Cx.rowAt B at_ 16 = q at *
      repeat (first | refine CX.psA ?_ | refine CX.nil ?_ | refine CQ.thenN ?_ | refine CQ.thenR ?_ | refine CQ.thenX ?_ | refine CQ.blockN ?_ | refine CQ.blockR ?_ | refine CQ.blockX ?_ | refine CQ.blockYA ?_ | refine CC.seq ?_ | refine CC.block ?_ | refine CC.region ?_ | refine CC.skip ?_ | refine CC.ret ?_ | refine CC.exit ?_ | refine CC.condTA ?_ | refine CC.condFA ?_ | refine CC.condDTA ?_ | refine CC.condDFA ?_ | refine CX.storeA ?_ | refine CX.skipA ?_)
      (apply CX.ps; (· apply PS.loadG (vs := [sv [], .slice none 0 0, .bool false]); (· rfl); (· rfl); (· exact CellsAt.all (by repeat (first | exact .head _ | apply Pick.tail | apply Upd.tail))); (· rfl)))
      (refine CX.storeB (vs := [sv [], .slice none 0 0, .bool false]) ?_ ?_ ?_ ?_; (· rfl); (· rfl); (· exact one_all rfl))
      repeat (first | refine CX.psA ?_ | refine CX.nil ?_ | refine CQ.thenN ?_ | refine CQ.thenR ?_ | refine CQ.thenX ?_ | refine CQ.blockN ?_ | refine CQ.blockR ?_ | refine CQ.blockX ?_ | refine CQ.blockYA ?_ | refine CC.seq ?_ | refine CC.block ?_ | refine CC.region ?_ | refine CC.skip ?_ | refine CC.ret ?_ | refine CC.exit ?_ | refine CC.condTA ?_ | refine CC.condFA ?_ | refine CC.condDTA ?_ | refine CC.condDFA ?_ | refine CX.storeA ?_ | refine CX.skipA ?_)
      refine CQ.ownNil 5 1 ?_
      (apply CQ.end3; (· rfl); (· exact .cells inferInstance rfl (CellsAt.all (by repeat (first | exact .head _ | apply Pick.tail | apply Upd.tail))) (rfl)); (· exact .tmp rfl); (· exact .tmp rfl))
      · exact ⟨none, 0, rfl, rfl⟩
      · repeat (first | exact Sel.nil _ | (apply Sel.cons; (· repeat (first | exact .head _ | apply Pick.tail | apply Upd.tail))))
    · have hlt : (Cx.rowAt B at_ 16).2.1 < B.length := by omega
      have hgd : B.getD (Cx.rowAt B at_ 16).2.1 0 = B[(Cx.rowAt B at_ 16).2.1] := by simp [List.getD, hlt]
      obtain ⟨g, off, rfl⟩ := rdx_some hp (by omega)
      by_cases h3 : B[(Cx.rowAt B at_ 16).2.1] = 1
      · rw [one_gone h1 h2 (by rw [hgd]; exact h3), h1]
        have h3' := u8_int h3
        generalize Cx.rowAt B at_ 16 = q at *
        repeat (first | refine CX.psA ?_ | refine CX.nil ?_ | refine CQ.thenN ?_ | refine CQ.thenR ?_ | refine CQ.thenX ?_ | refine CQ.blockN ?_ | refine CQ.blockR ?_ | refine CQ.blockX ?_ | refine CQ.blockYA ?_ | refine CC.seq ?_ | refine CC.block ?_ | refine CC.region ?_ | refine CC.skip ?_ | refine CC.ret ?_ | refine CC.exit ?_ | refine CC.condTA ?_ | refine CC.condFA ?_ | refine CC.condDTA ?_ | refine CC.condDFA ?_ | refine CX.storeA ?_ | refine CX.skipA ?_)
        refine CX.ps (PS.toStr rfl rfl rfl (rdx_own (by repeat (first | exact .head _ | apply Pick.tail | apply Upd.tail)) rfl)) ?_
        repeat (first | refine CX.psA ?_ | refine CX.nil ?_ | refine CQ.thenN ?_ | refine CQ.thenR ?_ | refine CQ.thenX ?_ | refine CQ.blockN ?_ | refine CQ.blockR ?_ | refine CQ.blockX ?_ | refine CQ.blockYA ?_ | refine CC.seq ?_ | refine CC.block ?_ | refine CC.region ?_ | refine CC.skip ?_ | refine CC.ret ?_ | refine CC.exit ?_ | refine CC.condTA ?_ | refine CC.condFA ?_ | refine CC.condDTA ?_ | refine CC.condDFA ?_ | refine CX.storeA ?_ | refine CX.skipA ?_)
        (refine CX.indexA (q.2.1) ?_ ?_; (· exact hlt))
        (refine CX.loadA _ (CellAt.rd (j := q.2.1) (by repeat (first | exact .head _ | apply Pick.tail | apply Upd.tail)) hp rfl hlt) ?_)
        rw [h3']
        repeat (first | refine CX.psA ?_ | refine CX.nil ?_ | refine CQ.thenN ?_ | refine CQ.thenR ?_ | refine CQ.thenX ?_ | refine CQ.blockN ?_ | refine CQ.blockR ?_ | refine CQ.blockX ?_ | refine CQ.blockYA ?_ | refine CC.seq ?_ | refine CC.block ?_ | refine CC.region ?_ | refine CC.skip ?_ | refine CC.ret ?_ | refine CC.exit ?_ | refine CC.condTA ?_ | refine CC.condFA ?_ | refine CC.condDTA ?_ | refine CC.condDFA ?_ | refine CX.storeA ?_ | refine CX.skipA ?_)
        (apply CX.ps; (· apply PS.loadG (vs := [sv q.1, .slice none 0 0, .bool true]); (· rfl); (· rfl); (· exact CellsAt.all (by repeat (first | exact .head _ | apply Pick.tail | apply Upd.tail))); (· rfl)))
        repeat (first | refine CX.psA ?_ | refine CX.nil ?_ | refine CQ.thenN ?_ | refine CQ.thenR ?_ | refine CQ.thenX ?_ | refine CQ.blockN ?_ | refine CQ.blockR ?_ | refine CQ.blockX ?_ | refine CQ.blockYA ?_ | refine CC.seq ?_ | refine CC.block ?_ | refine CC.region ?_ | refine CC.skip ?_ | refine CC.ret ?_ | refine CC.exit ?_ | refine CC.condTA ?_ | refine CC.condFA ?_ | refine CC.condDTA ?_ | refine CC.condDFA ?_ | refine CX.storeA ?_ | refine CX.skipA ?_)
        (refine CX.storeB (vs := [sv q.1, .slice none 0 0, .bool true]) ?_ ?_ ?_ ?_; (· rfl); (· rfl); (· exact one_all rfl))
        repeat (first | refine CX.psA ?_ | refine CX.nil ?_ | refine CQ.thenN ?_ | refine CQ.thenR ?_ | refine CQ.thenX ?_ | refine CQ.blockN ?_ | refine CQ.blockR ?_ | refine CQ.blockX ?_ | refine CQ.blockYA ?_ | refine CC.seq ?_ | refine CC.block ?_ | refine CC.region ?_ | refine CC.skip ?_ | refine CC.ret ?_ | refine CC.exit ?_ | refine CC.condTA ?_ | refine CC.condFA ?_ | refine CC.condDTA ?_ | refine CC.condDFA ?_ | refine CX.storeA ?_ | refine CX.skipA ?_)
        refine CQ.ownNil 5 1 ?_
        (apply CQ.end3; (· rfl); (· exact .cells inferInstance rfl (CellsAt.all (by repeat (first | exact .head _ | apply Pick.tail | apply Upd.tail))) (rfl)); (· exact .tmp rfl); (· exact .tmp rfl))
        · exact ⟨none, 0, rfl, rfl⟩
        · repeat (first | exact Sel.nil _ | (apply Sel.cons; (· repeat (first | exact .head _ | apply Pick.tail | apply Upd.tail))))
      · by_cases h4 : B[(Cx.rowAt B at_ 16).2.1] = 0
        · rw [one_val h1 h2 (by rw [hgd]; exact h4), h1]
          have h4' := u8_int h4
          have gr := getrow_c B (by omega) (some ⟨g, off, none⟩) cap hcap ((Cx.rowAt B at_ 16).2.1 + 1) 1048576 (by omega) (by omega)
          unfold GotRow at gr
          generalize Cx.rowAt B ((Cx.rowAt B at_ 16).2.1 + 1) 1048576 = q2 at *
          generalize Cx.rowAt B at_ 16 = q at *
          repeat (first | refine CX.psA ?_ | refine CX.nil ?_ | refine CQ.thenN ?_ | refine CQ.thenR ?_ | refine CQ.thenX ?_ | refine CQ.blockN ?_ | refine CQ.blockR ?_ | refine CQ.blockX ?_ | refine CQ.blockYA ?_ | refine CC.seq ?_ | refine CC.block ?_ | refine CC.region ?_ | refine CC.skip ?_ | refine CC.ret ?_ | refine CC.exit ?_ | refine CC.condTA ?_ | refine CC.condFA ?_ | refine CC.condDTA ?_ | refine CC.condDFA ?_ | refine CX.storeA ?_ | refine CX.skipA ?_)
          refine CX.ps (PS.toStr rfl rfl rfl (rdx_own (by repeat (first | exact .head _ | apply Pick.tail | apply Upd.tail)) rfl)) ?_
          repeat (first | refine CX.psA ?_ | refine CX.nil ?_ | refine CQ.thenN ?_ | refine CQ.thenR ?_ | refine CQ.thenX ?_ | refine CQ.blockN ?_ | refine CQ.blockR ?_ | refine CQ.blockX ?_ | refine CQ.blockYA ?_ | refine CC.seq ?_ | refine CC.block ?_ | refine CC.region ?_ | refine CC.skip ?_ | refine CC.ret ?_ | refine CC.exit ?_ | refine CC.condTA ?_ | refine CC.condFA ?_ | refine CC.condDTA ?_ | refine CC.condDFA ?_ | refine CX.storeA ?_ | refine CX.skipA ?_)
          (refine CX.indexA (q.2.1) ?_ ?_; (· exact hlt))
          (refine CX.loadA _ (CellAt.rd (j := q.2.1) (by repeat (first | exact .head _ | apply Pick.tail | apply Upd.tail)) hp rfl hlt) ?_)
          rw [h4']
          repeat (first | refine CX.psA ?_ | refine CX.nil ?_ | refine CQ.thenN ?_ | refine CQ.thenR ?_ | refine CQ.thenX ?_ | refine CQ.blockN ?_ | refine CQ.blockR ?_ | refine CQ.blockX ?_ | refine CQ.blockYA ?_ | refine CC.seq ?_ | refine CC.block ?_ | refine CC.region ?_ | refine CC.skip ?_ | refine CC.ret ?_ | refine CC.exit ?_ | refine CC.condTA ?_ | refine CC.condFA ?_ | refine CC.condDTA ?_ | refine CC.condDFA ?_ | refine CX.storeA ?_ | refine CX.skipA ?_)
          refine CX.callA (gr) ?_ (hpre := by exact rdx_ex (by repeat (first | exact .head _ | apply Pick.tail | apply Upd.tail)) hp)
          rintro _ _ ⟨a2, c2, rfl, rfl⟩
          repeat (first | refine CX.psA ?_ | refine CX.nil ?_ | refine CQ.thenN ?_ | refine CQ.thenR ?_ | refine CQ.thenX ?_ | refine CQ.blockN ?_ | refine CQ.blockR ?_ | refine CQ.blockX ?_ | refine CQ.blockYA ?_ | refine CC.seq ?_ | refine CC.block ?_ | refine CC.region ?_ | refine CC.skip ?_ | refine CC.ret ?_ | refine CC.exit ?_ | refine CC.condTA ?_ | refine CC.condFA ?_ | refine CC.condDTA ?_ | refine CC.condDFA ?_ | refine CX.storeA ?_ | refine CX.skipA ?_)
          (apply CX.ps; (· apply PS.loadG (vs := [sv q.1, .slice a2 q2.1.length c2, .bool false]); (· rfl); (· rfl); (· exact CellsAt.all (by repeat (first | exact .head _ | apply Pick.tail | apply Upd.tail))); (· rfl)))
          repeat (first | refine CX.psA ?_ | refine CX.nil ?_ | refine CQ.thenN ?_ | refine CQ.thenR ?_ | refine CQ.thenX ?_ | refine CQ.blockN ?_ | refine CQ.blockR ?_ | refine CQ.blockX ?_ | refine CQ.blockYA ?_ | refine CC.seq ?_ | refine CC.block ?_ | refine CC.region ?_ | refine CC.skip ?_ | refine CC.ret ?_ | refine CC.exit ?_ | refine CC.condTA ?_ | refine CC.condFA ?_ | refine CC.condDTA ?_ | refine CC.condDFA ?_ | refine CX.storeA ?_ | refine CX.skipA ?_)
          (refine CX.storeB (vs := [sv q.1, .slice a2 q2.1.length c2, .bool false]) ?_ ?_ ?_ ?_; (· rfl); (· rfl); (· exact one_all rfl))
          repeat (first | refine CX.psA ?_ | refine CX.nil ?_ | refine CQ.thenN ?_ | refine CQ.thenR ?_ | refine CQ.thenX ?_ | refine CQ.blockN ?_ | refine CQ.blockR ?_ | refine CQ.blockX ?_ | refine CQ.blockYA ?_ | refine CC.seq ?_ | refine CC.block ?_ | refine CC.region ?_ | refine CC.skip ?_ | refine CC.ret ?_ | refine CC.exit ?_ | refine CC.condTA ?_ | refine CC.condFA ?_ | refine CC.condDTA ?_ | refine CC.condDFA ?_ | refine CX.storeA ?_ | refine CX.skipA ?_)
          (apply CQ.end3; (· rfl); (· exact .cells inferInstance rfl (CellsAt.all (by repeat (first | exact .head _ | apply Pick.tail | apply Upd.tail))) (rfl)); (· exact .tmp rfl); (· exact .tmp rfl))
          · exact ⟨a2, c2, rfl, rfl⟩
          · repeat (first | exact Sel.nil _ | (apply Sel.cons; (· repeat (first | exact .head _ | apply Pick.tail | apply Upd.tail))))
        · rw [one_form h1 h2 (by rw [hgd]; exact h3) (by rw [hgd]; exact h4), h1]
          have h3' := u8_ne h3
          have h4' := u8_ne h4
          have e1 : ((1 : UInt8).toNat : Int) = 1 := rfl
          have e0 : ((0 : UInt8).toNat : Int) = 0 := rfl
          rw [e1] at h3'
          rw [e0] at h4'
          generalize Cx.rowAt B at_ 16 = q at *
          repeat (first | refine CX.psA ?_ | refine CX.nil ?_ | refine CQ.thenN ?_ | refine CQ.thenR ?_ | refine CQ.thenX ?_ | refine CQ.blockN ?_ | refine CQ.blockR ?_ | refine CQ.blockX ?_ | refine CQ.blockYA ?_ | refine CC.seq ?_ | refine CC.block ?_ | refine CC.region ?_ | refine CC.skip ?_ | refine CC.ret ?_ | refine CC.exit ?_ | refine CC.condTA ?_ | refine CC.condFA ?_ | refine CC.condDTA ?_ | refine CC.condDFA ?_ | refine CX.storeA ?_ | refine CX.skipA ?_)
          refine CX.ps (PS.toStr rfl rfl rfl (rdx_own (by repeat (first | exact .head _ | apply Pick.tail | apply Upd.tail)) rfl)) ?_
          repeat (first | refine CX.psA ?_ | refine CX.nil ?_ | refine CQ.thenN ?_ | refine CQ.thenR ?_ | refine CQ.thenX ?_ | refine CQ.blockN ?_ | refine CQ.blockR ?_ | refine CQ.blockX ?_ | refine CQ.blockYA ?_ | refine CC.seq ?_ | refine CC.block ?_ | refine CC.region ?_ | refine CC.skip ?_ | refine CC.ret ?_ | refine CC.exit ?_ | refine CC.condTA ?_ | refine CC.condFA ?_ | refine CC.condDTA ?_ | refine CC.condDFA ?_ | refine CX.storeA ?_ | refine CX.skipA ?_)
          (refine CX.indexA (q.2.1) ?_ ?_; (· exact hlt))
          (refine CX.loadA _ (CellAt.rd (j := q.2.1) (by repeat (first | exact .head _ | apply Pick.tail | apply Upd.tail)) hp rfl hlt) ?_)
          repeat (first | refine CX.psA ?_ | refine CX.nil ?_ | refine CQ.thenN ?_ | refine CQ.thenR ?_ | refine CQ.thenX ?_ | refine CQ.blockN ?_ | refine CQ.blockR ?_ | refine CQ.blockX ?_ | refine CQ.blockYA ?_ | refine CC.seq ?_ | refine CC.block ?_ | refine CC.region ?_ | refine CC.skip ?_ | refine CC.ret ?_ | refine CC.exit ?_ | refine CC.condTA ?_ | refine CC.condFA ?_ | refine CC.condDTA ?_ | refine CC.condDFA ?_ | refine CX.storeA ?_ | refine CX.skipA ?_)
          (apply CX.ps; (· apply PS.loadG (vs := [sv q.1, .slice none 0 0, .bool false]); (· rfl); (· rfl); (· exact CellsAt.all (by repeat (first | exact .head _ | apply Pick.tail | apply Upd.tail))); (· rfl)))
          (refine CX.storeB (vs := [sv q.1, .slice none 0 0, .bool false]) ?_ ?_ ?_ ?_; (· rfl); (· rfl); (· exact one_all rfl))
          repeat (first | refine CX.psA ?_ | refine CX.nil ?_ | refine CQ.thenN ?_ | refine CQ.thenR ?_ | refine CQ.thenX ?_ | refine CQ.blockN ?_ | refine CQ.blockR ?_ | refine CQ.blockX ?_ | refine CQ.blockYA ?_ | refine CC.seq ?_ | refine CC.block ?_ | refine CC.region ?_ | refine CC.skip ?_ | refine CC.ret ?_ | refine CC.exit ?_ | refine CC.condTA ?_ | refine CC.condFA ?_ | refine CC.condDTA ?_ | refine CC.condDFA ?_ | refine CX.storeA ?_ | refine CX.skipA ?_)
          refine CQ.ownNil 5 1 ?_
          (apply CQ.end3; (· rfl); (· exact .cells inferInstance rfl (CellsAt.all (by repeat (first | exact .head _ | apply Pick.tail | apply Upd.tail))) (rfl)); (· exact .tmp rfl); (· exact .tmp rfl))
          · exact ⟨none, 0, rfl, rfl⟩
          · repeat (first | exact Sel.nil _ | (apply Sel.cons; (· repeat (first | exact .head _ | apply Pick.tail | apply Upd.tail))))
  · rw [one_err h1]
    generalize Cx.rowAt B at_ 16 = q at *
    repeat (first | refine CX.psA ?_ | refine CX.nil ?_ | refine CQ.thenN ?_ | refine CQ.thenR ?_ | refine CQ.thenX ?_ | refine CQ.blockN ?_ | refine CQ.blockR ?_ | refine CQ.blockX ?_ | refine CQ.blockYA ?_ | refine CC.seq ?_ | refine CC.block ?_ | refine CC.region ?_ | refine CC.skip ?_ | refine CC.ret ?_ | refine CC.exit ?_ | refine CC.condTA ?_ | refine CC.condFA ?_ | refine CC.condDTA ?_ | refine CC.condDFA ?_ | refine CX.storeA ?_ | refine CX.skipA ?_)
    (apply CX.ps; (· apply PS.loadG (vs := [sv [], .slice none 0 0, .bool false]); (· rfl); (· rfl); (· exact CellsAt.all (by repeat (first | exact .head _ | apply Pick.tail | apply Upd.tail))); (· rfl)))
    repeat (first | refine CX.psA ?_ | refine CX.nil ?_ | refine CQ.thenN ?_ | refine CQ.thenR ?_ | refine CQ.thenX ?_ | refine CQ.blockN ?_ | refine CQ.blockR ?_ | refine CQ.blockX ?_ | refine CQ.blockYA ?_ | refine CC.seq ?_ | refine CC.block ?_ | refine CC.region ?_ | refine CC.skip ?_ | refine CC.ret ?_ | refine CC.exit ?_ | refine CC.condTA ?_ | refine CC.condFA ?_ | refine CC.condDTA ?_ | refine CC.condDFA ?_ | refine CX.storeA ?_ | refine CX.skipA ?_)
    (refine CX.storeB (vs := [sv [], .slice none 0 0, .bool false]) ?_ ?_ ?_ ?_; (· rfl); (· rfl); (· exact one_all rfl))
    repeat (first | refine CX.psA ?_ | refine CX.nil ?_ | refine CQ.thenN ?_ | refine CQ.thenR ?_ | refine CQ.thenX ?_ | refine CQ.blockN ?_ | refine CQ.blockR ?_ | refine CQ.blockX ?_ | refine CQ.blockYA ?_ | refine CC.seq ?_ | refine CC.block ?_ | refine CC.region ?_ | refine CC.skip ?_ | refine CC.ret ?_ | refine CC.exit ?_ | refine CC.condTA ?_ | refine CC.condFA ?_ | refine CC.condDTA ?_ | refine CC.condDFA ?_ | refine CX.storeA ?_ | refine CX.skipA ?_)
    refine CQ.ownNil 5 1 ?_
    (apply CQ.end3; (· rfl); (· exact .cells inferInstance rfl (CellsAt.all (by repeat (first | exact .head _ | apply Pick.tail | apply Upd.tail))) (rfl)); (· exact .tmp rfl); (· exact .tmp rfl))
    · exact ⟨none, 0, rfl, rfl⟩
    · repeat (first | exact Sel.nil _ | (apply Sel.cons; (· repeat (first | exact .head _ | apply Pick.tail | apply Upd.tail))))
end Go.Proofs.Ytlckhaodecdbbaa
