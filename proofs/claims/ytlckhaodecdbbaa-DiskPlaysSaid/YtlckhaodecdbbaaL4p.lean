/- What the statement DiskPlays does, step by step. -/
import Derived.Test.YtlckhaodecdbbaaRl
import Derived.Test.YtlckhaodecdbbaaL4n
set_option linter.unusedVariables false
set_option linter.unusedSimpArgs false
namespace Go.Proofs.Ytlckhaodecdbbaa
open Go.Cx
attribute [local irreducible] Go.Cx.CX Go.Cx.CC Go.Cx.CQ Go.Cx.PS Go.Cx.Ctr Go.Cx.CH
set_option maxRecDepth 10000

/-- A disk after an act. -/
def actD (D : DS) (z n q : Int) (y : UInt8) (b : Blk) (picks : List Int) : DS :=
  if z = 0 then (D.write n b).2 else if z = 1 then D else if z = 2 then D.flush.2 else if z = 3 then (D.arm n).2 else if z = 4 then D.crash picks else if z = 5 then D else (D.rot n q y).2
theorem read_WB {D : DS} {N : Nat} (h : D.wf N) (n : Int) : WB (D.read n).1 := by
  unfold DS.read
  split
  · exact WB_z
  · rename_i h0
    have h0' : D.lit n = 0 := Decidable.not_not.1 h0
    have h1 : D.there n = 0 := by unfold DS.lit at h0'; split at h0'; cases h0'; exact h0'
    obtain ⟨k, rfl, hk⟩ := there_ok h1
    have := valOf_WB (l := D.loose) h.wb (fun p hp => (h.lb p hp).2) hk
    exact this
theorem sureAt_WB {D : DS} {N : Nat} (h : D.wf N) (n : Int) : WB (D.sureAt n).1 := by
  unfold DS.sureAt
  split
  · exact WB_z
  · rename_i h0
    obtain ⟨k, rfl, hk⟩ := there_ok (Decidable.not_not.1 h0)
    exact getD_WB h.wb hk
theorem both4_c (d r : Nat) (D : DS) {N : Nat} (h : D.wf N) (hN : N < 1000) (z n q : Int) (y : UInt8) (b : Blk) (hb : WB b) (a : Option Addr) (l : List Int) (c : Nat) :
    Ctr Try.prog 58 [.pointer (some ⟨d, 0, none⟩), .pointer (some ⟨r, 0, none⟩), .agg (actc z n q (y.toNat : Int) b a l.length c).toArray] [disk d D, rdisk r D]
      (rdx a l.length (l.map (Value.int .i64))) (fun v M => v = .bool true ∧ M = [disk d (actD D z n q y b l), rdisk r (actD D z n q y b l)]) := by
  refine Ctr.intro Try.func58 rfl Try.ntmps58 rfl fun x w hp => ?_
  repeat (first | refine CX.psA ?_ | refine CX.nil ?_ | refine CQ.thenN ?_ | refine CQ.thenR ?_ | refine CQ.thenX ?_ | refine CQ.blockN ?_ | refine CQ.blockR ?_ | refine CQ.blockX ?_ | refine CQ.blockYA ?_ | refine CC.seq ?_ | refine CC.block ?_ | refine CC.region ?_ | refine CC.skip ?_ | refine CC.ret ?_ | refine CC.exit ?_ | refine CC.condTA ?_ | refine CC.condFA ?_ | refine CC.condDTA ?_ | refine CC.condDFA ?_ | refine CX.storeA ?_ | refine CX.skipA ?_)
  (refine CX.boxA ?_; intro s)
  repeat (first | refine CX.psA ?_ | refine CX.nil ?_ | refine CQ.thenN ?_ | refine CQ.thenR ?_ | refine CQ.thenX ?_ | refine CQ.blockN ?_ | refine CQ.blockR ?_ | refine CQ.blockX ?_ | refine CQ.blockYA ?_ | refine CC.seq ?_ | refine CC.block ?_ | refine CC.region ?_ | refine CC.skip ?_ | refine CC.ret ?_ | refine CC.exit ?_ | refine CC.condTA ?_ | refine CC.condFA ?_ | refine CC.condDTA ?_ | refine CC.condDFA ?_ | refine CX.storeA ?_ | refine CX.skipA ?_)
  by_cases h0 : z = 0
  · have e : actD D z n q y b l = (D.write n b).2 := by simp [actD, h0]
    rw [e]
    repeat (first | refine CX.psA ?_ | refine CX.nil ?_ | refine CQ.thenN ?_ | refine CQ.thenR ?_ | refine CQ.thenX ?_ | refine CQ.blockN ?_ | refine CQ.blockR ?_ | refine CQ.blockX ?_ | refine CQ.blockYA ?_ | refine CC.seq ?_ | refine CC.block ?_ | refine CC.region ?_ | refine CC.skip ?_ | refine CC.ret ?_ | refine CC.exit ?_ | refine CC.condTA ?_ | refine CC.condFA ?_ | refine CC.condDTA ?_ | refine CC.condDFA ?_ | refine CX.storeA ?_ | refine CX.skipA ?_)
    refine CC.draw [(0, 0), (1, 0), (2, 1), (3, 0), (4, 1), (6, 0), (7, 0), (8, 1), (9, 0), (10, 1), (5, 2), (11, 2), (12, 0), (13, 0)] mixed rfl (by kernel_rfl) (by kernel_rfl) [bk s 84 (actc z n q (y.toNat : Int) b a l.length c)] ?_
    repeat (first | refine CH.pureA ?_ | refine CH.readA ?_ | refine CH.skA ?_ | refine CH.skCA ?_ | refine CH.nil ?_)
    (apply CH.read; (· rfl); (· apply PS.loadG (vs := cb b); (· rfl); (· rfl); (· exact CellsAt.pick (by repeat (first | exact .head _ | apply Pick.tail | apply Upd.tail)) (actc_b hb)); (· exact hb.len)); (· repeat (first | exact Sel.nil _ | (apply Sel.cons; (· repeat (first | exact .head _ | apply Pick.tail | apply Upd.tail))))))
    repeat (first | refine CH.pureA ?_ | refine CH.readA ?_ | refine CH.skA ?_ | refine CH.skCA ?_ | refine CH.nil ?_)
    (apply CH.read; (· rfl); (· apply PS.loadG (vs := cb b); (· rfl); (· rfl); (· exact CellsAt.pick (by repeat (first | exact .head _ | apply Pick.tail | apply Upd.tail)) (actc_b hb)); (· exact hb.len)); (· repeat (first | exact Sel.nil _ | (apply Sel.cons; (· repeat (first | exact .head _ | apply Pick.tail | apply Upd.tail))))))
    refine CH.chain rfl fun K hK => ?_
    refine CX.callA (write_c d D n b hb h (by omega)) ?_
    rintro _ _ ⟨rfl, rfl⟩
    (refine CX.nil ?_; refine CQ.thenK ?_; apply hK; (· repeat (first | exact Sel.nil _ | (apply Sel.cons; (· repeat (first | exact .head _ | apply Pick.tail | apply Upd.tail))))); clear hK K)
    refine CH.chain rfl fun K hK => ?_
    refine CX.callA (rwrite_c r D n b hb h (by omega)) ?_
    rintro _ _ ⟨rfl, rfl⟩
    (refine CX.nil ?_; refine CQ.thenK ?_; apply hK; (· repeat (first | exact Sel.nil _ | (apply Sel.cons; (· repeat (first | exact .head _ | apply Pick.tail | apply Upd.tail))))); clear hK K)
    repeat (first | refine CH.pureA ?_ | refine CH.readA ?_ | refine CH.skA ?_ | refine CH.skCA ?_ | refine CH.nil ?_)
    repeat (first | refine CX.psA ?_ | refine CX.nil ?_ | refine CQ.thenN ?_ | refine CQ.thenR ?_ | refine CQ.thenX ?_ | refine CQ.blockN ?_ | refine CQ.blockR ?_ | refine CQ.blockX ?_ | refine CQ.blockYA ?_ | refine CC.seq ?_ | refine CC.block ?_ | refine CC.region ?_ | refine CC.skip ?_ | refine CC.ret ?_ | refine CC.exit ?_ | refine CC.condTA ?_ | refine CC.condFA ?_ | refine CC.condDTA ?_ | refine CC.condDFA ?_ | refine CX.storeA ?_ | refine CX.skipA ?_)
    ((apply CQ.end1; (· rfl); (· exact .tmp rfl)); (· exact ⟨rfl, rfl⟩); (· repeat (first | exact Sel.nil _ | (apply Sel.cons; (· repeat (first | exact .head _ | apply Pick.tail | apply Upd.tail))))))
  by_cases h1 : z = 1
  · have e : actD D z n q y b l = D := by simp [actD, h1]
    rw [e]
    have hw := read_WB h n
    repeat (first | refine CX.psA ?_ | refine CX.nil ?_ | refine CQ.thenN ?_ | refine CQ.thenR ?_ | refine CQ.thenX ?_ | refine CQ.blockN ?_ | refine CQ.blockR ?_ | refine CQ.blockX ?_ | refine CQ.blockYA ?_ | refine CC.seq ?_ | refine CC.block ?_ | refine CC.region ?_ | refine CC.skip ?_ | refine CC.ret ?_ | refine CC.exit ?_ | refine CC.condTA ?_ | refine CC.condFA ?_ | refine CC.condDTA ?_ | refine CC.condDFA ?_ | refine CX.storeA ?_ | refine CX.skipA ?_)
    refine CX.callA (read_c d D n h (by omega)) ?_
    rintro _ _ ⟨rfl, rfl⟩
    repeat (first | refine CX.psA ?_ | refine CX.nil ?_ | refine CQ.thenN ?_ | refine CQ.thenR ?_ | refine CQ.thenX ?_ | refine CQ.blockN ?_ | refine CQ.blockR ?_ | refine CQ.blockX ?_ | refine CQ.blockYA ?_ | refine CC.seq ?_ | refine CC.block ?_ | refine CC.region ?_ | refine CC.skip ?_ | refine CC.ret ?_ | refine CC.exit ?_ | refine CC.condTA ?_ | refine CC.condFA ?_ | refine CC.condDTA ?_ | refine CC.condDFA ?_ | refine CX.storeA ?_ | refine CX.skipA ?_)
    (refine CX.allocZ (cb zblk) ?_; intro r1)
    repeat (first | refine CX.psA ?_ | refine CX.nil ?_ | refine CQ.thenN ?_ | refine CQ.thenR ?_ | refine CQ.thenX ?_ | refine CQ.blockN ?_ | refine CQ.blockR ?_ | refine CQ.blockX ?_ | refine CQ.blockYA ?_ | refine CC.seq ?_ | refine CC.block ?_ | refine CC.region ?_ | refine CC.skip ?_ | refine CC.ret ?_ | refine CC.exit ?_ | refine CC.condTA ?_ | refine CC.condFA ?_ | refine CC.condDTA ?_ | refine CC.condDFA ?_ | refine CX.storeA ?_ | refine CX.skipA ?_)
    (apply CX.storeAll; (· rfl); (· rfl); (· rfl); (· repeat (first | exact .head _ | apply Pick.tail | apply Upd.tail)); (· exact hw.len); (· exact WB_z.len); (· exact one_cb _))
    repeat (first | refine CX.psA ?_ | refine CX.nil ?_ | refine CQ.thenN ?_ | refine CQ.thenR ?_ | refine CQ.thenX ?_ | refine CQ.blockN ?_ | refine CQ.blockR ?_ | refine CQ.blockX ?_ | refine CQ.blockYA ?_ | refine CC.seq ?_ | refine CC.block ?_ | refine CC.region ?_ | refine CC.skip ?_ | refine CC.ret ?_ | refine CC.exit ?_ | refine CC.condTA ?_ | refine CC.condFA ?_ | refine CC.condDTA ?_ | refine CC.condDFA ?_ | refine CX.storeA ?_ | refine CX.skipA ?_)
    refine CX.callA (rread_c r D n h (by omega)) ?_
    rintro _ _ ⟨rfl, rfl⟩
    repeat (first | refine CX.psA ?_ | refine CX.nil ?_ | refine CQ.thenN ?_ | refine CQ.thenR ?_ | refine CQ.thenX ?_ | refine CQ.blockN ?_ | refine CQ.blockR ?_ | refine CQ.blockX ?_ | refine CQ.blockYA ?_ | refine CC.seq ?_ | refine CC.block ?_ | refine CC.region ?_ | refine CC.skip ?_ | refine CC.ret ?_ | refine CC.exit ?_ | refine CC.condTA ?_ | refine CC.condFA ?_ | refine CC.condDTA ?_ | refine CC.condDFA ?_ | refine CX.storeA ?_ | refine CX.skipA ?_)
    (refine CX.allocZ (cb zblk) ?_; intro r2)
    repeat (first | refine CX.psA ?_ | refine CX.nil ?_ | refine CQ.thenN ?_ | refine CQ.thenR ?_ | refine CQ.thenX ?_ | refine CQ.blockN ?_ | refine CQ.blockR ?_ | refine CQ.blockX ?_ | refine CQ.blockYA ?_ | refine CC.seq ?_ | refine CC.block ?_ | refine CC.region ?_ | refine CC.skip ?_ | refine CC.ret ?_ | refine CC.exit ?_ | refine CC.condTA ?_ | refine CC.condFA ?_ | refine CC.condDTA ?_ | refine CC.condDFA ?_ | refine CX.storeA ?_ | refine CX.skipA ?_)
    (apply CX.storeAll; (· rfl); (· rfl); (· rfl); (· repeat (first | exact .head _ | apply Pick.tail | apply Upd.tail)); (· exact hw.len); (· exact WB_z.len); (· exact one_cb _))
    repeat (first | refine CX.psA ?_ | refine CX.nil ?_ | refine CQ.thenN ?_ | refine CQ.thenR ?_ | refine CQ.thenX ?_ | refine CQ.blockN ?_ | refine CQ.blockR ?_ | refine CQ.blockX ?_ | refine CQ.blockYA ?_ | refine CC.seq ?_ | refine CC.block ?_ | refine CC.region ?_ | refine CC.skip ?_ | refine CC.ret ?_ | refine CC.exit ?_ | refine CC.condTA ?_ | refine CC.condFA ?_ | refine CC.condDTA ?_ | refine CC.condDFA ?_ | refine CX.storeA ?_ | refine CX.skipA ?_)
    ((apply CX.ps; (· apply PS.loadG (vs := cb ((D.read n).1)); (· rfl); (· rfl); (· exact CellsAt.all (by repeat (first | exact .head _ | apply Pick.tail | apply Upd.tail))); (· exact hw.len))))
    ((apply CX.ps; (· apply PS.loadG (vs := cb ((D.read n).1)); (· rfl); (· rfl); (· exact CellsAt.all (by repeat (first | exact .head _ | apply Pick.tail | apply Upd.tail))); (· exact hw.len))))
    (apply CX.ps; (· refine PS.toT (PS.eqlB (a := ((D.read n).1)) (b := ((D.read n).1)) ?_ ?_ ?_ ?_ ?_) ?_; (· rfl); (· rfl); (· rfl); (· exact hw); (· exact hw); (· rfl)))
    repeat (first | refine CX.psA ?_ | refine CX.nil ?_ | refine CQ.thenN ?_ | refine CQ.thenR ?_ | refine CQ.thenX ?_ | refine CQ.blockN ?_ | refine CQ.blockR ?_ | refine CQ.blockX ?_ | refine CQ.blockYA ?_ | refine CC.seq ?_ | refine CC.block ?_ | refine CC.region ?_ | refine CC.skip ?_ | refine CC.ret ?_ | refine CC.exit ?_ | refine CC.condTA ?_ | refine CC.condFA ?_ | refine CC.condDTA ?_ | refine CC.condDFA ?_ | refine CX.storeA ?_ | refine CX.skipA ?_)
    ((apply CQ.end1; (· rfl); (· exact .tmp rfl)); (· exact ⟨rfl, rfl⟩); (· repeat (first | exact Sel.nil _ | (apply Sel.cons; (· repeat (first | exact .head _ | apply Pick.tail | apply Upd.tail))))))
  by_cases h2 : z = 2
  · have e : actD D z n q y b l = D.flush.2 := by simp [actD, h2]
    rw [e]
    repeat (first | refine CX.psA ?_ | refine CX.nil ?_ | refine CQ.thenN ?_ | refine CQ.thenR ?_ | refine CQ.thenX ?_ | refine CQ.blockN ?_ | refine CQ.blockR ?_ | refine CQ.blockX ?_ | refine CQ.blockYA ?_ | refine CC.seq ?_ | refine CC.block ?_ | refine CC.region ?_ | refine CC.skip ?_ | refine CC.ret ?_ | refine CC.exit ?_ | refine CC.condTA ?_ | refine CC.condFA ?_ | refine CC.condDTA ?_ | refine CC.condDFA ?_ | refine CX.storeA ?_ | refine CX.skipA ?_)
    refine CX.callA (flush_c d D h (by omega)) ?_
    rintro _ _ ⟨rfl, rfl⟩
    repeat (first | refine CX.psA ?_ | refine CX.nil ?_ | refine CQ.thenN ?_ | refine CQ.thenR ?_ | refine CQ.thenX ?_ | refine CQ.blockN ?_ | refine CQ.blockR ?_ | refine CQ.blockX ?_ | refine CQ.blockYA ?_ | refine CC.seq ?_ | refine CC.block ?_ | refine CC.region ?_ | refine CC.skip ?_ | refine CC.ret ?_ | refine CC.exit ?_ | refine CC.condTA ?_ | refine CC.condFA ?_ | refine CC.condDTA ?_ | refine CC.condDFA ?_ | refine CX.storeA ?_ | refine CX.skipA ?_)
    refine CX.callA (rflush_c r D h (by omega)) ?_
    rintro _ _ ⟨rfl, rfl⟩
    repeat (first | refine CX.psA ?_ | refine CX.nil ?_ | refine CQ.thenN ?_ | refine CQ.thenR ?_ | refine CQ.thenX ?_ | refine CQ.blockN ?_ | refine CQ.blockR ?_ | refine CQ.blockX ?_ | refine CQ.blockYA ?_ | refine CC.seq ?_ | refine CC.block ?_ | refine CC.region ?_ | refine CC.skip ?_ | refine CC.ret ?_ | refine CC.exit ?_ | refine CC.condTA ?_ | refine CC.condFA ?_ | refine CC.condDTA ?_ | refine CC.condDFA ?_ | refine CX.storeA ?_ | refine CX.skipA ?_)
    ((apply CQ.end1; (· rfl); (· exact .tmp rfl)); (· exact ⟨rfl, rfl⟩); (· repeat (first | exact Sel.nil _ | (apply Sel.cons; (· repeat (first | exact .head _ | apply Pick.tail | apply Upd.tail))))))
  by_cases h3 : z = 3
  · have e : actD D z n q y b l = (D.arm n).2 := by simp [actD, h3]
    rw [e]
    repeat (first | refine CX.psA ?_ | refine CX.nil ?_ | refine CQ.thenN ?_ | refine CQ.thenR ?_ | refine CQ.thenX ?_ | refine CQ.blockN ?_ | refine CQ.blockR ?_ | refine CQ.blockX ?_ | refine CQ.blockYA ?_ | refine CC.seq ?_ | refine CC.block ?_ | refine CC.region ?_ | refine CC.skip ?_ | refine CC.ret ?_ | refine CC.exit ?_ | refine CC.condTA ?_ | refine CC.condFA ?_ | refine CC.condDTA ?_ | refine CC.condDFA ?_ | refine CX.storeA ?_ | refine CX.skipA ?_)
    refine CC.draw [(0, 0), (1, 0), (2, 1), (4, 0), (5, 0), (6, 1), (3, 2), (7, 2), (8, 0), (9, 0)] mixed rfl (by kernel_rfl) (by kernel_rfl) [bk s 84 (actc z n q (y.toNat : Int) b a l.length c)] ?_
    repeat (first | refine CH.pureA ?_ | refine CH.readA ?_ | refine CH.skA ?_ | refine CH.skCA ?_ | refine CH.nil ?_)
    refine CH.chain rfl fun K hK => ?_
    refine CX.callA (arm_c d D n) ?_
    rintro _ _ ⟨rfl, rfl⟩
    (refine CX.nil ?_; refine CQ.thenK ?_; apply hK; (· repeat (first | exact Sel.nil _ | (apply Sel.cons; (· repeat (first | exact .head _ | apply Pick.tail | apply Upd.tail))))); clear hK K)
    refine CH.chain rfl fun K hK => ?_
    refine CX.callA (rarm_c r D n (by have := h.lo; omega)) ?_
    rintro _ _ ⟨rfl, rfl⟩
    (refine CX.nil ?_; refine CQ.thenK ?_; apply hK; (· repeat (first | exact Sel.nil _ | (apply Sel.cons; (· repeat (first | exact .head _ | apply Pick.tail | apply Upd.tail))))); clear hK K)
    repeat (first | refine CH.pureA ?_ | refine CH.readA ?_ | refine CH.skA ?_ | refine CH.skCA ?_ | refine CH.nil ?_)
    repeat (first | refine CX.psA ?_ | refine CX.nil ?_ | refine CQ.thenN ?_ | refine CQ.thenR ?_ | refine CQ.thenX ?_ | refine CQ.blockN ?_ | refine CQ.blockR ?_ | refine CQ.blockX ?_ | refine CQ.blockYA ?_ | refine CC.seq ?_ | refine CC.block ?_ | refine CC.region ?_ | refine CC.skip ?_ | refine CC.ret ?_ | refine CC.exit ?_ | refine CC.condTA ?_ | refine CC.condFA ?_ | refine CC.condDTA ?_ | refine CC.condDFA ?_ | refine CX.storeA ?_ | refine CX.skipA ?_)
    ((apply CQ.end1; (· rfl); (· exact .tmp rfl)); (· exact ⟨rfl, rfl⟩); (· repeat (first | exact Sel.nil _ | (apply Sel.cons; (· repeat (first | exact .head _ | apply Pick.tail | apply Upd.tail))))))
  by_cases h4 : z = 4
  · have e : actD D z n q y b l = D.crash l := by simp [actD, h4]
    rw [e]
    repeat (first | refine CX.psA ?_ | refine CX.nil ?_ | refine CQ.thenN ?_ | refine CQ.thenR ?_ | refine CQ.thenX ?_ | refine CQ.blockN ?_ | refine CQ.blockR ?_ | refine CQ.blockX ?_ | refine CQ.blockYA ?_ | refine CC.seq ?_ | refine CC.block ?_ | refine CC.region ?_ | refine CC.skip ?_ | refine CC.ret ?_ | refine CC.exit ?_ | refine CC.condTA ?_ | refine CC.condFA ?_ | refine CC.condDTA ?_ | refine CC.condDFA ?_ | refine CX.storeA ?_ | refine CX.skipA ?_)
    refine CC.draw [(0, 0), (1, 0), (2, 1), (4, 0), (5, 0), (6, 1), (3, 2), (7, 2), (8, 0), (9, 0)] mixed rfl (by kernel_rfl) (by kernel_rfl) [bk s 84 (actc z n q (y.toNat : Int) b a l.length c)] ?_
    repeat (first | refine CH.pureA ?_ | refine CH.readA ?_ | refine CH.skA ?_ | refine CH.skCA ?_ | refine CH.nil ?_)
    (apply CH.read; (· rfl); (· apply PS.load (v := .slice a l.length c); (· rfl); (· rfl); (· exact CellAt.pick (by repeat (first | exact .head _ | apply Pick.tail | apply Upd.tail)) (actc_s hb))); (· repeat (first | exact Sel.nil _ | (apply Sel.cons; (· repeat (first | exact .head _ | apply Pick.tail | apply Upd.tail))))))
    repeat (first | refine CH.pureA ?_ | refine CH.readA ?_ | refine CH.skA ?_ | refine CH.skCA ?_ | refine CH.nil ?_)
    (apply CH.read; (· rfl); (· apply PS.load (v := .slice a l.length c); (· rfl); (· rfl); (· exact CellAt.pick (by repeat (first | exact .head _ | apply Pick.tail | apply Upd.tail)) (actc_s hb))); (· repeat (first | exact Sel.nil _ | (apply Sel.cons; (· repeat (first | exact .head _ | apply Pick.tail | apply Upd.tail))))))
    refine CH.chain rfl fun K hK => ?_
    refine CX.callA (crash_c d D l a c h (by omega)) ?_ (hpre := by exact fun y hy => rdx_mono hp (Pick.ok (show Pick (exact x) _ _ from by repeat (first | exact .head _ | apply Pick.tail | apply Upd.tail)) hy))
    rintro _ _ ⟨rfl, rfl⟩
    (refine CX.nil ?_; refine CQ.thenK ?_; apply hK; (· repeat (first | exact Sel.nil _ | (apply Sel.cons; (· repeat (first | exact .head _ | apply Pick.tail | apply Upd.tail))))); clear hK K)
    refine CH.chain rfl fun K hK => ?_
    refine CX.callA (rcrash_c r D l a c h (by omega)) ?_ (hpre := by exact fun y hy => rdx_mono hp (Pick.ok (show Pick (exact x) _ _ from by repeat (first | exact .head _ | apply Pick.tail | apply Upd.tail)) hy))
    rintro _ _ ⟨rfl, rfl⟩
    (refine CX.nil ?_; refine CQ.thenK ?_; apply hK; (· repeat (first | exact Sel.nil _ | (apply Sel.cons; (· repeat (first | exact .head _ | apply Pick.tail | apply Upd.tail))))); clear hK K)
    repeat (first | refine CH.pureA ?_ | refine CH.readA ?_ | refine CH.skA ?_ | refine CH.skCA ?_ | refine CH.nil ?_)
    repeat (first | refine CX.psA ?_ | refine CX.nil ?_ | refine CQ.thenN ?_ | refine CQ.thenR ?_ | refine CQ.thenX ?_ | refine CQ.blockN ?_ | refine CQ.blockR ?_ | refine CQ.blockX ?_ | refine CQ.blockYA ?_ | refine CC.seq ?_ | refine CC.block ?_ | refine CC.region ?_ | refine CC.skip ?_ | refine CC.ret ?_ | refine CC.exit ?_ | refine CC.condTA ?_ | refine CC.condFA ?_ | refine CC.condDTA ?_ | refine CC.condDFA ?_ | refine CX.storeA ?_ | refine CX.skipA ?_)
    ((apply CQ.end1; (· rfl); (· exact .tmp rfl)); (· exact ⟨rfl, rfl⟩); (· repeat (first | exact Sel.nil _ | (apply Sel.cons; (· repeat (first | exact .head _ | apply Pick.tail | apply Upd.tail))))))
  by_cases h5 : z = 5
  · have e : actD D z n q y b l = D := by simp [actD, h5]
    rw [e]
    have hw := sureAt_WB h n
    repeat (first | refine CX.psA ?_ | refine CX.nil ?_ | refine CQ.thenN ?_ | refine CQ.thenR ?_ | refine CQ.thenX ?_ | refine CQ.blockN ?_ | refine CQ.blockR ?_ | refine CQ.blockX ?_ | refine CQ.blockYA ?_ | refine CC.seq ?_ | refine CC.block ?_ | refine CC.region ?_ | refine CC.skip ?_ | refine CC.ret ?_ | refine CC.exit ?_ | refine CC.condTA ?_ | refine CC.condFA ?_ | refine CC.condDTA ?_ | refine CC.condDFA ?_ | refine CX.storeA ?_ | refine CX.skipA ?_)
    refine CX.callA (sure_c d D n h) ?_
    rintro _ _ ⟨rfl, rfl⟩
    repeat (first | refine CX.psA ?_ | refine CX.nil ?_ | refine CQ.thenN ?_ | refine CQ.thenR ?_ | refine CQ.thenX ?_ | refine CQ.blockN ?_ | refine CQ.blockR ?_ | refine CQ.blockX ?_ | refine CQ.blockYA ?_ | refine CC.seq ?_ | refine CC.block ?_ | refine CC.region ?_ | refine CC.skip ?_ | refine CC.ret ?_ | refine CC.exit ?_ | refine CC.condTA ?_ | refine CC.condFA ?_ | refine CC.condDTA ?_ | refine CC.condDFA ?_ | refine CX.storeA ?_ | refine CX.skipA ?_)
    (refine CX.allocZ (cb zblk) ?_; intro r1)
    repeat (first | refine CX.psA ?_ | refine CX.nil ?_ | refine CQ.thenN ?_ | refine CQ.thenR ?_ | refine CQ.thenX ?_ | refine CQ.blockN ?_ | refine CQ.blockR ?_ | refine CQ.blockX ?_ | refine CQ.blockYA ?_ | refine CC.seq ?_ | refine CC.block ?_ | refine CC.region ?_ | refine CC.skip ?_ | refine CC.ret ?_ | refine CC.exit ?_ | refine CC.condTA ?_ | refine CC.condFA ?_ | refine CC.condDTA ?_ | refine CC.condDFA ?_ | refine CX.storeA ?_ | refine CX.skipA ?_)
    (apply CX.storeAll; (· rfl); (· rfl); (· rfl); (· repeat (first | exact .head _ | apply Pick.tail | apply Upd.tail)); (· exact hw.len); (· exact WB_z.len); (· exact one_cb _))
    repeat (first | refine CX.psA ?_ | refine CX.nil ?_ | refine CQ.thenN ?_ | refine CQ.thenR ?_ | refine CQ.thenX ?_ | refine CQ.blockN ?_ | refine CQ.blockR ?_ | refine CQ.blockX ?_ | refine CQ.blockYA ?_ | refine CC.seq ?_ | refine CC.block ?_ | refine CC.region ?_ | refine CC.skip ?_ | refine CC.ret ?_ | refine CC.exit ?_ | refine CC.condTA ?_ | refine CC.condFA ?_ | refine CC.condDTA ?_ | refine CC.condDFA ?_ | refine CX.storeA ?_ | refine CX.skipA ?_)
    refine CX.callA (rsure_c r D n h) ?_
    rintro _ _ ⟨rfl, rfl⟩
    repeat (first | refine CX.psA ?_ | refine CX.nil ?_ | refine CQ.thenN ?_ | refine CQ.thenR ?_ | refine CQ.thenX ?_ | refine CQ.blockN ?_ | refine CQ.blockR ?_ | refine CQ.blockX ?_ | refine CQ.blockYA ?_ | refine CC.seq ?_ | refine CC.block ?_ | refine CC.region ?_ | refine CC.skip ?_ | refine CC.ret ?_ | refine CC.exit ?_ | refine CC.condTA ?_ | refine CC.condFA ?_ | refine CC.condDTA ?_ | refine CC.condDFA ?_ | refine CX.storeA ?_ | refine CX.skipA ?_)
    (refine CX.allocZ (cb zblk) ?_; intro r2)
    repeat (first | refine CX.psA ?_ | refine CX.nil ?_ | refine CQ.thenN ?_ | refine CQ.thenR ?_ | refine CQ.thenX ?_ | refine CQ.blockN ?_ | refine CQ.blockR ?_ | refine CQ.blockX ?_ | refine CQ.blockYA ?_ | refine CC.seq ?_ | refine CC.block ?_ | refine CC.region ?_ | refine CC.skip ?_ | refine CC.ret ?_ | refine CC.exit ?_ | refine CC.condTA ?_ | refine CC.condFA ?_ | refine CC.condDTA ?_ | refine CC.condDFA ?_ | refine CX.storeA ?_ | refine CX.skipA ?_)
    (apply CX.storeAll; (· rfl); (· rfl); (· rfl); (· repeat (first | exact .head _ | apply Pick.tail | apply Upd.tail)); (· exact hw.len); (· exact WB_z.len); (· exact one_cb _))
    repeat (first | refine CX.psA ?_ | refine CX.nil ?_ | refine CQ.thenN ?_ | refine CQ.thenR ?_ | refine CQ.thenX ?_ | refine CQ.blockN ?_ | refine CQ.blockR ?_ | refine CQ.blockX ?_ | refine CQ.blockYA ?_ | refine CC.seq ?_ | refine CC.block ?_ | refine CC.region ?_ | refine CC.skip ?_ | refine CC.ret ?_ | refine CC.exit ?_ | refine CC.condTA ?_ | refine CC.condFA ?_ | refine CC.condDTA ?_ | refine CC.condDFA ?_ | refine CX.storeA ?_ | refine CX.skipA ?_)
    ((apply CX.ps; (· apply PS.loadG (vs := cb ((D.sureAt n).1)); (· rfl); (· rfl); (· exact CellsAt.all (by repeat (first | exact .head _ | apply Pick.tail | apply Upd.tail))); (· exact hw.len))))
    ((apply CX.ps; (· apply PS.loadG (vs := cb ((D.sureAt n).1)); (· rfl); (· rfl); (· exact CellsAt.all (by repeat (first | exact .head _ | apply Pick.tail | apply Upd.tail))); (· exact hw.len))))
    (apply CX.ps; (· refine PS.toT (PS.eqlB (a := ((D.sureAt n).1)) (b := ((D.sureAt n).1)) ?_ ?_ ?_ ?_ ?_) ?_; (· rfl); (· rfl); (· rfl); (· exact hw); (· exact hw); (· rfl)))
    repeat (first | refine CX.psA ?_ | refine CX.nil ?_ | refine CQ.thenN ?_ | refine CQ.thenR ?_ | refine CQ.thenX ?_ | refine CQ.blockN ?_ | refine CQ.blockR ?_ | refine CQ.blockX ?_ | refine CQ.blockYA ?_ | refine CC.seq ?_ | refine CC.block ?_ | refine CC.region ?_ | refine CC.skip ?_ | refine CC.ret ?_ | refine CC.exit ?_ | refine CC.condTA ?_ | refine CC.condFA ?_ | refine CC.condDTA ?_ | refine CC.condDFA ?_ | refine CX.storeA ?_ | refine CX.skipA ?_)
    ((apply CQ.end1; (· rfl); (· exact .tmp rfl)); (· exact ⟨rfl, rfl⟩); (· repeat (first | exact Sel.nil _ | (apply Sel.cons; (· repeat (first | exact .head _ | apply Pick.tail | apply Upd.tail))))))
  · have e : actD D z n q y b l = (D.rot n q y).2 := by simp [actD, h0, h1, h2, h3, h4, h5]
    rw [e]
    repeat (first | refine CX.psA ?_ | refine CX.nil ?_ | refine CQ.thenN ?_ | refine CQ.thenR ?_ | refine CQ.thenX ?_ | refine CQ.blockN ?_ | refine CQ.blockR ?_ | refine CQ.blockX ?_ | refine CQ.blockYA ?_ | refine CC.seq ?_ | refine CC.block ?_ | refine CC.region ?_ | refine CC.skip ?_ | refine CC.ret ?_ | refine CC.exit ?_ | refine CC.condTA ?_ | refine CC.condFA ?_ | refine CC.condDTA ?_ | refine CC.condDFA ?_ | refine CX.storeA ?_ | refine CX.skipA ?_)
    refine CC.draw [(0, 0), (1, 0), (2, 1), (3, 0), (4, 1), (5, 0), (6, 1), (8, 0), (9, 0), (10, 1), (11, 0), (12, 1), (13, 0), (14, 1), (7, 2), (15, 2), (16, 0), (17, 0)] mixed rfl (by kernel_rfl) (by kernel_rfl) [bk s 84 (actc z n q (y.toNat : Int) b a l.length c)] ?_
    repeat (first | refine CH.pureA ?_ | refine CH.readA ?_ | refine CH.skA ?_ | refine CH.skCA ?_ | refine CH.nil ?_)
    refine CH.chain rfl fun K hK => ?_
    refine CX.callA (rot_c d D n q y h (by omega)) ?_
    rintro _ _ ⟨rfl, rfl⟩
    (refine CX.nil ?_; refine CQ.thenK ?_; apply hK; (· repeat (first | exact Sel.nil _ | (apply Sel.cons; (· repeat (first | exact .head _ | apply Pick.tail | apply Upd.tail))))); clear hK K)
    refine CH.chain rfl fun K hK => ?_
    refine CX.callA (rrot_c r D n q y h (by omega)) ?_
    rintro _ _ ⟨rfl, rfl⟩
    (refine CX.nil ?_; refine CQ.thenK ?_; apply hK; (· repeat (first | exact Sel.nil _ | (apply Sel.cons; (· repeat (first | exact .head _ | apply Pick.tail | apply Upd.tail))))); clear hK K)
    repeat (first | refine CH.pureA ?_ | refine CH.readA ?_ | refine CH.skA ?_ | refine CH.skCA ?_ | refine CH.nil ?_)
    repeat (first | refine CX.psA ?_ | refine CX.nil ?_ | refine CQ.thenN ?_ | refine CQ.thenR ?_ | refine CQ.thenX ?_ | refine CQ.blockN ?_ | refine CQ.blockR ?_ | refine CQ.blockX ?_ | refine CQ.blockYA ?_ | refine CC.seq ?_ | refine CC.block ?_ | refine CC.region ?_ | refine CC.skip ?_ | refine CC.ret ?_ | refine CC.exit ?_ | refine CC.condTA ?_ | refine CC.condFA ?_ | refine CC.condDTA ?_ | refine CC.condDFA ?_ | refine CX.storeA ?_ | refine CX.skipA ?_)
    ((apply CQ.end1; (· rfl); (· exact .tmp rfl)); (· exact ⟨rfl, rfl⟩); (· repeat (first | exact Sel.nil _ | (apply Sel.cons; (· repeat (first | exact .head _ | apply Pick.tail | apply Upd.tail))))))
end Go.Proofs.Ytlckhaodecdbbaa
