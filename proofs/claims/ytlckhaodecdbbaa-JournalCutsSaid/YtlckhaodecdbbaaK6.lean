/- Part K6: L4p, Jd, Je, Jf, Jg, Jh, Ji, Jj, Jk, Jp, Jq, Jr, Ap. -/
import Derived.Test.YtlckhaodecdbbaaK5
import Derived.Test.YtlckhaodecdbbaaK4
set_option linter.unusedVariables false
set_option linter.unusedSimpArgs false
/-! What the statement DiskPlays does, step by step. -/
namespace Go.Proofs.Ytlckhaodecdbbaa
open Go.Cx
attribute [local irreducible] Go.Cx.CX Go.Cx.CC Go.Cx.CQ Go.Cx.PS Go.Cx.Ctr Go.Cx.CH
set_option maxRecDepth 10000

/-- A disk after an act. -/
def actD (D : DS) (z n q : Int) (y : UInt8) (b : Blk) (picks : List Int) : DS :=
  if z = 0 then (D.write n b).2 else if z = 1 then D else if z = 2 then D.flush.2 else if z = 3 then (D.arm n).2 else if z = 4 then D.crash picks else if z = 5 then D else (D.rot n q y).2
theorem read_WB {D : DS} {N : Nat} (h : D.wf N) (n : Int) : WB (D.read n).1 := by
  unfold DS.read
  split
  · exact WB_z
  · rename_i h0
    have h0' : D.lit n = 0 := Decidable.not_not.1 h0
    have h1 : D.there n = 0 := by unfold DS.lit at h0'; split at h0'; cases h0'; exact h0'
    obtain ⟨k, rfl, hk⟩ := there_ok h1
    have := valOf_WB (l := D.loose) h.wb (fun p hp => (h.lb p hp).2) hk
    exact this
theorem sureAt_WB {D : DS} {N : Nat} (h : D.wf N) (n : Int) : WB (D.sureAt n).1 := by
  unfold DS.sureAt
  split
  · exact WB_z
  · rename_i h0
    obtain ⟨k, rfl, hk⟩ := there_ok (Decidable.not_not.1 h0)
    exact getD_WB h.wb hk
theorem both4_c (d r : Nat) (D : DS) {N : Nat} (h : D.wf N) (hN : N < 1000) (z n q : Int) (y : UInt8) (b : Blk) (hb : WB b) (a : Option Addr) (l : List Int) (c : Nat) :
    Ctr Try.prog 58 [.pointer (some ⟨d, 0, none⟩), .pointer (some ⟨r, 0, none⟩), .agg (actc z n q (y.toNat : Int) b a l.length c).toArray] [disk d D, rdisk r D]
      (rdx a l.length (l.map (Value.int .i64))) (fun v M => v = .bool true ∧ M = [disk d (actD D z n q y b l), rdisk r (actD D z n q y b l)]) := by
  refine Ctr.intro Try.func58 rfl Try.ntmps58 rfl fun x w hp => ?_
  refine wk ?_
  (refine CX.boxA ?_; intro s)
  refine wk ?_
  by_cases h0 : z = 0
  · have e : actD D z n q y b l = (D.write n b).2 := by simp [actD, h0]
    rw [e]
    refine wk ?_
    refine CC.draw [(0, 0), (1, 0), (2, 1), (3, 0), (4, 1), (6, 0), (7, 0), (8, 1), (9, 0), (10, 1), (5, 2), (11, 2), (12, 0), (13, 0)] mixed rfl (by kernel_rfl) (by kernel_rfl) [bk s 84 (actc z n q (y.toNat : Int) b a l.length c)] ?_
    refine hwk ?_
    (apply CH.read; (· rfl); (· apply PS.loadG (vs := cb b); (· rfl); (· rfl); (· exact CellsAt.pick (by first | exact pickA | exact updA) (actc_b hb)); (· exact hb.len)); (· exact selA))
    refine hwk ?_
    (apply CH.read; (· rfl); (· apply PS.loadG (vs := cb b); (· rfl); (· rfl); (· exact CellsAt.pick (by first | exact pickA | exact updA) (actc_b hb)); (· exact hb.len)); (· exact selA))
    refine CH.chain rfl fun K hK => ?_
    refine CX.callA (write_c d D n b hb h (by omega)) ?_
    rintro _ _ ⟨rfl, rfl⟩
    (refine CX.nil ?_; refine CQ.thenK ?_; apply hK; (· exact selA); clear hK K)
    refine CH.chain rfl fun K hK => ?_
    refine CX.callA (rwrite_c r D n b hb h (by omega)) ?_
    rintro _ _ ⟨rfl, rfl⟩
    (refine CX.nil ?_; refine CQ.thenK ?_; apply hK; (· exact selA); clear hK K)
    refine hwk ?_
    refine wk ?_
    ((apply CQ.end1; (· rfl); (· exact .tmp rfl)); (· exact ⟨rfl, rfl⟩); (· exact selA))
  by_cases h1 : z = 1
  · have e : actD D z n q y b l = D := by simp [actD, h1]
    rw [e]
    have hw := read_WB h n
    refine wk ?_
    refine CX.callA (read_c d D n h (by omega)) ?_
    rintro _ _ ⟨rfl, rfl⟩
    refine wk ?_
    (refine CX.allocZ (cb zblk) ?_; intro r1)
    refine wk ?_
    (apply CX.storeAll; (· rfl); (· rfl); (· rfl); (· first | exact pickA | exact updA); (· exact hw.len); (· exact WB_z.len); (· exact one_cb _))
    refine wk ?_
    refine CX.callA (rread_c r D n h (by omega)) ?_
    rintro _ _ ⟨rfl, rfl⟩
    refine wk ?_
    (refine CX.allocZ (cb zblk) ?_; intro r2)
    refine wk ?_
    (apply CX.storeAll; (· rfl); (· rfl); (· rfl); (· first | exact pickA | exact updA); (· exact hw.len); (· exact WB_z.len); (· exact one_cb _))
    refine wk ?_
    ((apply CX.ps; (· apply PS.loadG (vs := cb ((D.read n).1)); (· rfl); (· rfl); (· exact CellsAt.all (by first | exact pickA | exact updA)); (· exact hw.len))))
    ((apply CX.ps; (· apply PS.loadG (vs := cb ((D.read n).1)); (· rfl); (· rfl); (· exact CellsAt.all (by first | exact pickA | exact updA)); (· exact hw.len))))
    (apply CX.ps; (· refine PS.toT (PS.eqlB (a := ((D.read n).1)) (b := ((D.read n).1)) ?_ ?_ ?_ ?_ ?_) ?_; (· rfl); (· rfl); (· rfl); (· exact hw); (· exact hw); (· rfl)))
    refine wk ?_
    ((apply CQ.end1; (· rfl); (· exact .tmp rfl)); (· exact ⟨rfl, rfl⟩); (· exact selA))
  by_cases h2 : z = 2
  · have e : actD D z n q y b l = D.flush.2 := by simp [actD, h2]
    rw [e]
    refine wk ?_
    refine CX.callA (flush_c d D h (by omega)) ?_
    rintro _ _ ⟨rfl, rfl⟩
    refine wk ?_
    refine CX.callA (rflush_c r D h (by omega)) ?_
    rintro _ _ ⟨rfl, rfl⟩
    refine wk ?_
    ((apply CQ.end1; (· rfl); (· exact .tmp rfl)); (· exact ⟨rfl, rfl⟩); (· exact selA))
  by_cases h3 : z = 3
  · have e : actD D z n q y b l = (D.arm n).2 := by simp [actD, h3]
    rw [e]
    refine wk ?_
    refine CC.draw [(0, 0), (1, 0), (2, 1), (4, 0), (5, 0), (6, 1), (3, 2), (7, 2), (8, 0), (9, 0)] mixed rfl (by kernel_rfl) (by kernel_rfl) [bk s 84 (actc z n q (y.toNat : Int) b a l.length c)] ?_
    refine hwk ?_
    refine CH.chain rfl fun K hK => ?_
    refine CX.callA (arm_c d D n) ?_
    rintro _ _ ⟨rfl, rfl⟩
    (refine CX.nil ?_; refine CQ.thenK ?_; apply hK; (· exact selA); clear hK K)
    refine CH.chain rfl fun K hK => ?_
    refine CX.callA (rarm_c r D n (by have := h.lo; omega)) ?_
    rintro _ _ ⟨rfl, rfl⟩
    (refine CX.nil ?_; refine CQ.thenK ?_; apply hK; (· exact selA); clear hK K)
    refine hwk ?_
    refine wk ?_
    ((apply CQ.end1; (· rfl); (· exact .tmp rfl)); (· exact ⟨rfl, rfl⟩); (· exact selA))
  by_cases h4 : z = 4
  · have e : actD D z n q y b l = D.crash l := by simp [actD, h4]
    rw [e]
    refine wk ?_
    refine CC.draw [(0, 0), (1, 0), (2, 1), (4, 0), (5, 0), (6, 1), (3, 2), (7, 2), (8, 0), (9, 0)] mixed rfl (by kernel_rfl) (by kernel_rfl) [bk s 84 (actc z n q (y.toNat : Int) b a l.length c)] ?_
    refine hwk ?_
    (apply CH.read; (· rfl); (· apply PS.load (v := .slice a l.length c); (· rfl); (· rfl); (· exact CellAt.pick (by first | exact pickA | exact updA) (actc_s hb))); (· exact selA))
    refine hwk ?_
    (apply CH.read; (· rfl); (· apply PS.load (v := .slice a l.length c); (· rfl); (· rfl); (· exact CellAt.pick (by first | exact pickA | exact updA) (actc_s hb))); (· exact selA))
    refine CH.chain rfl fun K hK => ?_
    refine CX.callA (crash_c d D l a c h (by omega)) ?_ (hpre := by exact fun y hy => rdx_mono hp (Pick.ok (show Pick (exact x) _ _ from by first | exact pickA | exact updA) hy))
    rintro _ _ ⟨rfl, rfl⟩
    (refine CX.nil ?_; refine CQ.thenK ?_; apply hK; (· exact selA); clear hK K)
    refine CH.chain rfl fun K hK => ?_
    refine CX.callA (rcrash_c r D l a c h (by omega)) ?_ (hpre := by exact fun y hy => rdx_mono hp (Pick.ok (show Pick (exact x) _ _ from by first | exact pickA | exact updA) hy))
    rintro _ _ ⟨rfl, rfl⟩
    (refine CX.nil ?_; refine CQ.thenK ?_; apply hK; (· exact selA); clear hK K)
    refine hwk ?_
    refine wk ?_
    ((apply CQ.end1; (· rfl); (· exact .tmp rfl)); (· exact ⟨rfl, rfl⟩); (· exact selA))
  by_cases h5 : z = 5
  · have e : actD D z n q y b l = D := by simp [actD, h5]
    rw [e]
    have hw := sureAt_WB h n
    refine wk ?_
    refine CX.callA (sure_c d D n h) ?_
    rintro _ _ ⟨rfl, rfl⟩
    refine wk ?_
    (refine CX.allocZ (cb zblk) ?_; intro r1)
    refine wk ?_
    (apply CX.storeAll; (· rfl); (· rfl); (· rfl); (· first | exact pickA | exact updA); (· exact hw.len); (· exact WB_z.len); (· exact one_cb _))
    refine wk ?_
    refine CX.callA (rsure_c r D n h) ?_
    rintro _ _ ⟨rfl, rfl⟩
    refine wk ?_
    (refine CX.allocZ (cb zblk) ?_; intro r2)
    refine wk ?_
    (apply CX.storeAll; (· rfl); (· rfl); (· rfl); (· first | exact pickA | exact updA); (· exact hw.len); (· exact WB_z.len); (· exact one_cb _))
    refine wk ?_
    ((apply CX.ps; (· apply PS.loadG (vs := cb ((D.sureAt n).1)); (· rfl); (· rfl); (· exact CellsAt.all (by first | exact pickA | exact updA)); (· exact hw.len))))
    ((apply CX.ps; (· apply PS.loadG (vs := cb ((D.sureAt n).1)); (· rfl); (· rfl); (· exact CellsAt.all (by first | exact pickA | exact updA)); (· exact hw.len))))
    (apply CX.ps; (· refine PS.toT (PS.eqlB (a := ((D.sureAt n).1)) (b := ((D.sureAt n).1)) ?_ ?_ ?_ ?_ ?_) ?_; (· rfl); (· rfl); (· rfl); (· exact hw); (· exact hw); (· rfl)))
    refine wk ?_
    ((apply CQ.end1; (· rfl); (· exact .tmp rfl)); (· exact ⟨rfl, rfl⟩); (· exact selA))
  · have e : actD D z n q y b l = (D.rot n q y).2 := by simp [actD, h0, h1, h2, h3, h4, h5]
    rw [e]
    refine wk ?_
    refine CC.draw [(0, 0), (1, 0), (2, 1), (3, 0), (4, 1), (5, 0), (6, 1), (8, 0), (9, 0), (10, 1), (11, 0), (12, 1), (13, 0), (14, 1), (7, 2), (15, 2), (16, 0), (17, 0)] mixed rfl (by kernel_rfl) (by kernel_rfl) [bk s 84 (actc z n q (y.toNat : Int) b a l.length c)] ?_
    refine hwk ?_
    refine CH.chain rfl fun K hK => ?_
    refine CX.callA (rot_c d D n q y h (by omega)) ?_
    rintro _ _ ⟨rfl, rfl⟩
    (refine CX.nil ?_; refine CQ.thenK ?_; apply hK; (· exact selA); clear hK K)
    refine CH.chain rfl fun K hK => ?_
    refine CX.callA (rrot_c r D n q y h (by omega)) ?_
    rintro _ _ ⟨rfl, rfl⟩
    (refine CX.nil ?_; refine CQ.thenK ?_; apply hK; (· exact selA); clear hK K)
    refine hwk ?_
    refine wk ?_
    ((apply CQ.end1; (· rfl); (· exact .tmp rfl)); (· exact ⟨rfl, rfl⟩); (· exact selA))
end Go.Proofs.Ytlckhaodecdbbaa
/-! The journal's small methods, in the program. -/
namespace Go.Cx
/-- A journal's cells, on the disk at d. -/
def jrc (d : Nat) (J : JM) : List Value := [.pointer (some ⟨d, 0, none⟩), .int .u64 (J.n : Int), .int .u8 (J.h.bank : Int), .int .u32 (J.h.blocks : Int), .int .u32 (J.h.batches : Int)]
theorem bank_int {n : Nat} (h : 64 ≤ n) (h2 : n ≤ 4096) : IntKind.i64.wrap (((n : Int) - 2).tdiv 2) = ((((n - 2) / 2 : Nat)) : Int) := by
  rw [tdiv_nn (by omega), wr_i64 (by omega) (by omega)]; omega
end Go.Cx
namespace Go.Proofs.Ytlckhaodecdbbaa
open Go.Cx
attribute [local irreducible] Go.Cx.CX Go.Cx.CC Go.Cx.CQ Go.Cx.PS Go.Cx.Ctr Go.Cx.CH
set_option maxRecDepth 10000
theorem jnone_c (p d : Nat) (J : JM) : Ctr Try.prog 138 [.pointer (some ⟨p, 0, none⟩)] [bk p 120 (jrc d J)] (fun _ => True) (fun v M => v = .bool false ∧ M = [bk p 120 (jrc d J)]) := by
  refine Ctr.intro Try.func138 rfl Try.ntmps138 rfl fun x w hp => ?_
  refine wk ?_
  ((apply CQ.end1; (· rfl); (· exact .tmp rfl)); (· exact ⟨rfl, rfl⟩); (· exact selA))
theorem jnone0_c : Ctr Try.prog 138 [.pointer none] [] (fun _ => True) (fun v M => v = .bool true ∧ M = []) := by
  refine Ctr.intro Try.func138 rfl Try.ntmps138 rfl fun x w hp => ?_
  refine wk ?_
  ((apply CQ.end1; (· rfl); (· exact .tmp rfl)); (· exact ⟨rfl, rfl⟩); (· exact selA))
theorem jnoneZ_c (p : Nat) (cs : List Value) : Ctr Try.prog 138 [.pointer (some ⟨p, 0, none⟩)] [bk p 120 (.pointer none :: cs)] (fun _ => True) (fun v M => v = .bool true ∧ M = [bk p 120 (.pointer none :: cs)]) := by
  refine Ctr.intro Try.func138 rfl Try.ntmps138 rfl fun x w hp => ?_
  refine wk ?_
  ((apply CQ.end1; (· rfl); (· exact .tmp rfl)); (· exact ⟨rfl, rfl⟩); (· exact selA))
theorem jbank_c (p d : Nat) (J : JM) (D : DS) {N : Nat} (h : D.wf N) : Ctr Try.prog 139 [.pointer (some ⟨p, 0, none⟩)] [bk p 120 (jrc d J), disk d D] (fun _ => True) (fun v M => v = .int .i64 (bankM D : Int) ∧ M = [bk p 120 (jrc d J), disk d D]) := by
  have h1 := h.lo
  have h2 := h.hi
  refine Ctr.intro Try.func139 rfl Try.ntmps139 rfl fun x w hp => ?_
  refine wk ?_
  refine CX.callA (blocks_c d D) ?_
  rintro _ _ ⟨rfl, rfl⟩
  refine wk ?_
  refine CX.ps (PS.quo rfl rfl rfl (by decide) (bank_int h1 h2)) ?_
  refine wk ?_
  ((apply CQ.end1; (· rfl); (· exact .tmp rfl)); (· exact ⟨rfl, rfl⟩); (· exact selA))
theorem jfirst_c (p d : Nat) (J : JM) (D : DS) (b : Nat) (hb : b < 256) {N : Nat} (h : D.wf N) : Ctr Try.prog 142 [.pointer (some ⟨p, 0, none⟩), .int .u8 (b : Int)] [bk p 120 (jrc d J), disk d D] (fun _ => True) (fun v M => v = .int .i64 (firstM D b : Int) ∧ M = [bk p 120 (jrc d J), disk d D]) := by
  have h2 := h.hi
  have hbk : bankM D ≤ 2048 := by unfold bankM; omega
  have hmul : b * bankM D ≤ 256 * 2048 := Nat.mul_le_mul (by omega) hbk
  refine Ctr.intro Try.func142 rfl Try.ntmps142 rfl fun x w hp => ?_
  refine wk ?_
  refine CX.callA (jbank_c p d J D h) ?_
  rintro _ _ ⟨rfl, rfl⟩
  refine CX.ps (PS.mul (z := ((b * bankM D : Nat) : Int)) rfl rfl rfl (by rw [← Int.natCast_mul]; exact wr_i64 (by omega) (by omega))) ?_
  unfold firstM
  generalize b * bankM D = z at hmul
  refine wk ?_
  ((apply CQ.end1; (· rfl); (· exact .tmp rfl)); (· exact ⟨by congr 1, rfl⟩); (· exact selA))
theorem jboth_c (p d : Nat) (J : JM) (D : DS) {N : Nat} (h : D.wf N) (hN : N < 1000000) : Ctr Try.prog 143 [.pointer (some ⟨p, 0, none⟩)] [bk p 120 (jrc d J), disk d D] (fun _ => True)
    (fun v M => v = .tuple #[.agg (cb (bothM D).1).toArray, .agg (cb (bothM D).2.1).toArray, .int .i64 (bothM D).2.2] ∧ M = [bk p 120 (jrc d J), disk d D]) := by
  refine Ctr.intro Try.func143 rfl Try.ntmps143 rfl fun x w hp => ?_
  have w0 := read_WB h 0
  have w1 := read_WB h 1
  refine wk ?_
  refine CX.allocZ (cb zblk) ?_
  intro q2
  refine CX.allocZ (cb zblk) ?_
  intro q3
  refine wk ?_
  refine CX.callA (read_c d D 0 h hN) ?_
  rintro _ _ ⟨rfl, rfl⟩
  by_cases he : (D.read 0).2 = 0
  · have hb : bothM D = ((D.read 0).1, (D.read 1).1, (D.read 1).2) := by unfold bothM; rw [if_neg (by simp [he])]
    rw [hb, he]
    generalize (D.read 0).1 = X at *
    refine wk ?_
    (apply CX.storeAll; (· rfl); (· rfl); (· rfl); (· first | exact pickA | exact updA); (· exact w0.len); (· exact WB_z.len); (· exact one_cb _))
    refine wk ?_
    refine CX.callA (read_c d D 1 h hN) ?_
    rintro _ _ ⟨rfl, rfl⟩
    generalize hY : D.read 1 = Y at *
    refine wk ?_
    (apply CX.storeAll; (· rfl); (· rfl); (· rfl); (· first | exact pickA | exact updA); (· exact w1.len); (· exact WB_z.len); (· exact one_cb _))
    refine wk ?_
    refine CC.draw [(0, 1), (1, 1), (2, 0), (3, 2), (4, 3), (5, 0)] mixed rfl (by kernel_rfl) (by kernel_rfl) [bk q2 29 (cb X), bk q3 29 (cb Y.1)] ?_
    (apply CH.read; (· rfl); (· apply PS.loadG (vs := cb X); (· rfl); (· rfl); (· exact CellsAt.all (by first | exact pickA | exact updA)); (· exact w0.len)); (· exact selA))
    (apply CH.read; (· rfl); (· apply PS.loadG (vs := cb Y.1); (· rfl); (· rfl); (· exact CellsAt.all (by first | exact pickA | exact updA)); (· exact w1.len)); (· exact selA))
    refine hwk ?_
    refine CH.chain rfl fun K hK => ?_
    (apply CX.storeAll; (· rfl); (· rfl); (· rfl); (· first | exact pickA | exact updA); (· exact w0.len); (· exact w0.len); (· exact one_cb _))
    (refine CX.nil ?_; refine CQ.thenK ?_; apply hK; (· exact selA); clear hK K)
    refine CH.tail rfl rfl fun K hK => ?_
    (apply CX.storeAll; (· rfl); (· rfl); (· rfl); (· first | exact pickA | exact updA); (· exact w1.len); (· exact w1.len); (· exact one_cb _))
    (refine CX.nil ?_; refine CQ.thenK ?_; apply hK; clear hK K)
    refine hwk ?_
    refine wk ?_
    (apply CQ.end3; (· rfl); (· exact .cells inferInstance rfl (CellsAt.all (by first | exact pickA | exact updA)) (w0.len)); (· exact .cells inferInstance rfl (CellsAt.all (by first | exact pickA | exact updA)) (w1.len)); (· exact .tmp rfl))
    · exact ⟨rfl, rfl⟩
    · exact selA
  · have hb : bothM D = ((D.read 0).1, zblk, (D.read 0).2) := by unfold bothM; rw [if_pos he]
    rw [hb]
    generalize D.read 0 = X at *
    refine wk ?_
    (apply CX.storeAll; (· rfl); (· rfl); (· rfl); (· first | exact pickA | exact updA); (· exact w0.len); (· exact WB_z.len); (· exact one_cb _))
    refine wk ?_
    refine CC.draw [(0, 1), (1, 1), (2, 0), (3, 2), (4, 3), (5, 0)] mixed rfl (by kernel_rfl) (by kernel_rfl) [bk q2 29 (cb X.1), bk q3 29 (cb zblk)] ?_
    (apply CH.read; (· rfl); (· apply PS.loadG (vs := cb X.1); (· rfl); (· rfl); (· exact CellsAt.all (by first | exact pickA | exact updA)); (· exact w0.len)); (· exact selA))
    (apply CH.read; (· rfl); (· apply PS.loadG (vs := cb zblk); (· rfl); (· rfl); (· exact CellsAt.all (by first | exact pickA | exact updA)); (· exact WB_z.len)); (· exact selA))
    refine hwk ?_
    refine CH.chain rfl fun K hK => ?_
    (apply CX.storeAll; (· rfl); (· rfl); (· rfl); (· first | exact pickA | exact updA); (· exact w0.len); (· exact w0.len); (· exact one_cb _))
    (refine CX.nil ?_; refine CQ.thenK ?_; apply hK; (· exact selA); clear hK K)
    refine CH.tail rfl rfl fun K hK => ?_
    (apply CX.storeAll; (· rfl); (· rfl); (· rfl); (· first | exact pickA | exact updA); (· exact WB_z.len); (· exact WB_z.len); (· exact one_cb _))
    (refine CX.nil ?_; refine CQ.thenK ?_; apply hK; clear hK K)
    refine hwk ?_
    refine wk ?_
    (apply CQ.end3; (· rfl); (· exact .cells inferInstance rfl (CellsAt.all (by first | exact pickA | exact updA)) (w0.len)); (· exact .cells inferInstance rfl (CellsAt.all (by first | exact pickA | exact updA)) (WB_z.len)); (· exact .tmp rfl))
    · exact ⟨rfl, rfl⟩
    · exact selA
def planM : Pl := .op 0 0 (.op 1 0 (.op 2 0 (.op 3 1 (.op 4 0 (.op 5 1 (.fork 6 10 (.op 7 0 (.op 8 0 (.op 9 0 (.op 10 2 (.op 11 2 (.op 12 0 .nil)))))) (.op 6 2 (.op 7 0 (.op 8 0 (.op 9 0 (.op 11 2 (.op 12 0 .nil))))))))))))
theorem jmark_c (p d : Nat) (J : JM) (hJ : J.n < 4611686018427387904) (k : HdM) (hk : k.ok) (D : DS) {N : Nat} (h : D.wf N) (hN : N < 1000000) : Ctr Try.prog 162 [.pointer (some ⟨p, 0, none⟩), .agg (hc k).toArray] [bk p 120 (jrc d J), disk d D] (fun _ => True)
    (fun v M => v = .int .i64 (markM J k D).1 ∧ M = [bk p 120 (jrc d J), disk d (markM J k D).2]) := by
  have hw1 : WB (bothM D).1 := by unfold bothM; split <;> exact read_WB h 0
  have hw2 : WB (bothM D).2.1 := by
    unfold bothM; split
    · exact WB_z
    · exact read_WB h 1
  have hw3 : WB (putH (J.n + 1) k).1 := by
    unfold putH; split
    · exact WB_z
    · exact sealB_WB (by rw [bytes_len]; omega)
  refine Ctr.intro Try.func162 rfl Try.ntmps162 rfl fun x w hp => ?_
  refine wk ?_
  (refine CX.boxA (vs := hc k) ?_; intro q3)
  refine wk ?_
  refine CX.callA (jboth_c p d J D h hN) ?_
  unfold markM
  generalize bothM D = o at *
  rintro _ _ ⟨rfl, rfl⟩
  refine wk ?_
  refine CX.allocZ (cb zblk) ?_
  intro q5
  refine CX.allocZ (cb zblk) ?_
  intro q6
  (apply CX.storeAll; (· rfl); (· rfl); (· rfl); (· first | exact pickA | exact updA); (· exact hw1.len); (· exact WB_z.len); (· exact one_cb _))
  (apply CX.storeAll; (· rfl); (· rfl); (· rfl); (· first | exact pickA | exact updA); (· exact hw2.len); (· exact WB_z.len); (· exact one_cb _))
  by_cases he : o.2.2 = 0
  rotate_left
  · rw [if_pos he]
    refine wk ?_
    ((apply CQ.end1; (· rfl); (· exact .tmp rfl)); (· exact ⟨rfl, rfl⟩); (· exact selA))
  rw [if_neg (by simp [he]), he]
  refine wk ?_
  refine CC.join (X := Nat) (fun b => [(0, .pointer (some ⟨p, 0, none⟩)), (5, .pointer (some ⟨q5, 0, none⟩)), (6, .pointer (some ⟨q6, 0, none⟩)), (7, .int .i64 (putH (J.n + 1) k).2), (8, .pointer (some ⟨b, 0, none⟩))])
    (fun b => [bk p 120 (jrc d J), disk d D, bk q5 29 (cb o.1), bk q6 29 (cb o.2.1), bk b 29 (cb (putH (J.n + 1) k).1), exact x]) (fun _ => True) ?_ ?_
  · have hput := hput_c (J.n + 1) (by simp only [top]; omega) k hk
    generalize putH (J.n + 1) k = u at *
    refine CC.drawP planM (fun _ => false) mixed rfl (by kernel_rfl) (by kernel_rfl) [bk p 120 (jrc d J), bk q3 68 (hc k)] ?_
    unfold planM
    refine hqk ?_
    refine CP.read ?_ (hp := PS.loadG (vs := hc k) rfl rfl (CellsAt.all (by first | exact pickA | exact updA)) rfl)
    refine CP.fork ?_ ?_
    · intro K hK
      refine CX.callA (hput) ?_
      rintro _ _ ⟨rfl, rfl⟩
      (refine CX.nil ?_; refine CQ.thenK ?_; apply hK; (· exact selA); clear hK K)
      refine hqk ?_
      refine CP.act ?_
      intro K hK
      refine CX.allocZ (cb zblk) ?_
      intro q8
      (refine CX.nil ?_; refine CQ.thenK ?_; apply hK; (· exact selA); clear hK K)
      refine CP.act ?_
      intro K hK
      (apply CX.storeAll; (· rfl); (· rfl); (· rfl); (· first | exact pickA | exact updA); (· exact hw3.len); (· exact WB_z.len); (· exact one_cb _))
      (refine CX.nil ?_; refine CQ.thenK ?_; apply hK; (· exact selA); clear hK K)
      refine hqk ?_
      exact CQ.joined q8 trivial ⟨rfl, rfl, rfl, rfl, rfl, trivial⟩ (by exact selA)
    · intro K hK
      refine CX.allocZ (cb zblk) ?_
      intro q8
      (refine CX.nil ?_; refine CQ.thenK ?_; apply hK; (· exact selA); clear hK K)
      refine CP.act ?_
      intro K hK
      refine CX.callA (hput) ?_
      rintro _ _ ⟨rfl, rfl⟩
      (refine CX.nil ?_; refine CQ.thenK ?_; apply hK; (· exact selA); clear hK K)
      refine hqk ?_
      refine CP.act ?_
      intro K hK
      (apply CX.storeAll; (· rfl); (· rfl); (· rfl); (· first | exact pickA | exact updA); (· exact hw3.len); (· exact WB_z.len); (· exact one_cb _))
      (refine CX.nil ?_; refine CQ.thenK ?_; apply hK; (· exact selA); clear hK K)
      refine hqk ?_
      exact CQ.joined q8 trivial ⟨rfl, rfl, rfl, rfl, rfl, trivial⟩ (by exact selA)
  · intro q8 _
    generalize putH (J.n + 1) k = u at *
    by_cases hu : u.2 = 0
    rotate_left
    · rw [if_pos hu]
      refine wk ?_
      ((apply CQ.end1; (· rfl); (· exact .tmp rfl)); (· exact ⟨rfl, rfl⟩); (· exact selA))
    rw [if_neg (by simp [hu]), hu]
    refine wk ?_
    refine CC.draw [(0, 0), (1, 0), (2, 0), (3, 1), (4, 1), (5, 1), (7, 1), (6, 2), (8, 2), (9, 0)] mixed rfl (by kernel_rfl) (by kernel_rfl) [bk p 120 (jrc d J), bk q5 29 (cb o.1), bk q6 29 (cb o.2.1), bk q8 29 (cb u.1)] ?_
    refine hwk ?_
    (apply CH.read; (· rfl); (· apply PS.loadG (vs := cb o.1); (· rfl); (· rfl); (· exact CellsAt.all (by first | exact pickA | exact updA)); (· exact hw1.len)); (· exact selA))
    (apply CH.read; (· rfl); (· apply PS.loadG (vs := cb o.2.1); (· rfl); (· rfl); (· exact CellsAt.all (by first | exact pickA | exact updA)); (· exact hw2.len)); (· exact selA))
    (apply CH.read; (· rfl); (· apply PS.loadG (vs := cb u.1); (· rfl); (· rfl); (· exact CellsAt.all (by first | exact pickA | exact updA)); (· exact hw3.len)); (· exact selA))
    refine CH.chain rfl fun K hK => ?_
    refine CX.callA (snext_c o.1 o.2.1 hw1 hw2) ?_
    rintro _ _ ⟨rfl, rfl⟩
    (refine CX.nil ?_; refine CQ.thenK ?_; apply hK; (· exact selA); clear hK K)
    refine CH.chain rfl fun K hK => ?_
    refine CX.callA (write_c d D (nextM o.1 o.2.1) u.1 hw3 h hN) ?_
    rintro _ _ ⟨rfl, rfl⟩
    (refine CX.nil ?_; refine CQ.thenK ?_; apply hK; (· exact selA); clear hK K)
    refine hwk ?_
    refine wk ?_
    ((apply CQ.end1; (· rfl); (· exact .tmp rfl)); (· exact ⟨rfl, rfl⟩); (· exact selA))
end Go.Proofs.Ytlckhaodecdbbaa
/-! What the journal lays (run, lay), in the program. -/
namespace Go.Cx
/-- A step that the journal runs: a function value, and what it does to the disk. -/
def StepOk (P : Program) (H : DS → List Assn) (v : Value) (f : DS → Int × DS) (pre : PH → Prop) : Prop :=
  ∃ (k : FuncId) (first cap : List Value), v = .func (.func k) first.toArray cap.toArray ∧ HasFn P k ∧ ∀ N D, D.wf N → N < 999990 → (f D).2.wf (N + 1) ∧ Ctr P k (first ++ cap) (H D) pre (fun u M => u = .int .i64 (f D).1 ∧ M = H (f D).2)
theorem Ctr.frame1 {P : Program} {f : FuncId} {args : List Value} {A B : Assn} {post : Value → List Assn → Prop} (S : Ctr P f args [B] (fun _ => True) post) : Ctr P f args [A, B] (fun _ => True) (fun v M => ∃ M', post v M' ∧ M = M' ++ [A]) := by
  intro x w hs _
  have hs2 : Sep ([B] ++ [A, exact x]) w.ph := Sep.swap hs
  obtain ⟨y, hy, hl⟩ := hs2.rest
  refine (S y w hy trivial).mono ?_
  rintro e w' ⟨v, M, hp, rfl, hs', he⟩
  refine ⟨v, M ++ [A], ⟨M, hp, rfl⟩, rfl, ?_, he⟩
  rw [List.append_assoc]
  exact hs'.unrest hl
theorem cell_rdx1 {L L' : List Assn} {x : PH} {b : Nat} {v : Value} (p : Pick (exact x) L L') (h : rdx (some ⟨b, 0, none⟩) 1 [v] x) : CellAt L b 0 v := by
  rcases h with h | ⟨g, off, cs, t, fr, e, hx, hc⟩
  · omega
  · simp only [Option.some.injEq, Addr.mk.injEq, and_true] at e
    obtain ⟨rfl, rfl⟩ := e
    exact CellAt.exact p ⟨cs, t, fr, hx, by simpa using hc 0 v rfl⟩
theorem cells_rdxN {L L' : List Assn} {x : PH} {b n : Nat} {vs : List Value} (p : Pick (exact x) L L') (h0 : 0 < n) (h : rdx (some ⟨b, 0, none⟩) n vs x) : CellsAt L b 0 vs := by
  rcases h with h | ⟨g, off, cs, t, fr, e, hx, hc⟩
  · omega
  · simp only [Option.some.injEq, Addr.mk.injEq, and_true] at e
    obtain ⟨rfl, rfl⟩ := e
    exact CellsAt.exact p ⟨cs, t, fr, hx, hc⟩
/-- The boxes of what is written: the numbers, and the blocks. -/
def bxAt (bs : List (Nat × Nat)) (l : List Blk) (h : PH) : Prop := ∀ j (hj : j < bs.length), rdx (some ⟨bs[j].1, 0, none⟩) 1 [.int .i64 (j : Int)] h ∧ rdx (some ⟨bs[j].2, 0, none⟩) 128 (cb (l.getD j [])) h
theorem bxAt_mono {bs : List (Nat × Nat)} {l : List Blk} {x y : PH} (h : bxAt bs l x) (k : Le x y) : bxAt bs l y := fun j hj => ⟨rdx_mono (h j hj).1 k, rdx_mono (h j hj).2 k⟩
@[irreducible] def bxA (bs : List (Nat × Nat)) (l : List Blk) : Assn where
  ok h := bxAt bs l h
  mono := fun _ _ k e => bxAt_mono e k
theorem bxA_ok {bs : List (Nat × Nat)} {l : List Blk} {h : PH} : (bxA bs l).ok h ↔ bxAt bs l h := by
  unfold bxA; exact Iff.rfl
theorem bk_at {b t : Nat} {cs : List Value} {h : PH} (s : (bk b t cs).ok h) : rdx (some ⟨b, 0, none⟩) cs.length cs h :=
  .inr ⟨b, 0, _, _, _, rfl, bk_ok.1 s, fun j u hu => by simpa using hu⟩
theorem Sep.merge3 {A B C E : Assn} {L : List Assn} (hC : ∀ k, A.ok k → B.ok k → C.ok k → E.ok k) {h : PH} (s : Sep (A :: B :: C :: L) h) : Sep (E :: L) h := by
  obtain ⟨S, a, b⟩ := Sep.append (H := [A, B, C]) s
  exact ⟨S, hC _ a.head a.tail.head a.tail.tail.head, b⟩
section
variable {P : Program} {ops : Array Oper} {Q : Exit → Act → World → Prop} {n : Nat} {e0 : World} {env : Env} {L L' : List Assn} {rest : List Oper}
variable {dst : Option Tmp} {ty : TypeId} {pos : String} {aft : Array Edge} {g : Option (Nat × Bool)}
theorem CX.merge3 {A B C : Assn} {M1 M2 M3 : List Assn} (E : Assn) (hC : ∀ k, A.ok k → B.ok k → C.ok k → E.ok k) (h : CX P ops Q n e0 env (E :: M3) rest) (p : Pick A L M1 := by first | exact pickA | exact updA) (q : Pick B M1 M2 := by first | exact pickA | exact updA) (r : Pick C M2 M3 := by first | exact pickA | exact updA) : CX P ops Q n e0 env L rest :=
  CX.mem (fun _ s => Sep.merge3 hC (Sep.cons_mono (fun _ t => Sep.cons_mono (fun _ => r.sep) (q.sep t)) (p.sep s))) h
theorem CX.callS {H : DS → List Assn} {v : Value} {f : DS → Int × DS} {pre : PH → Prop} {y : Operand} {N : Nat} {D : DS} (S : StepOk P H v f pre) (hw : D.wf N) (hN : N < 999990)
    (h : (f D).2.wf (N + 1) → CX P ops Q n e0 (putE env dst (.int .i64 (f D).1)) (H (f D).2 ++ L') rest) (hy : ev n env y = some v) (hsel : Sel L (H D) L') (hpre : ∀ x, Sep L' x → pre x) (hg : gd ops n env g = some true := by rfl) :
    CX P ops Q n e0 env L (⟨dst, .call ⟨.value y, #[], #[]⟩, ty, pos, aft, g⟩ :: rest) := by
  obtain ⟨k, first, cap, rfl, inst, hS⟩ := S
  obtain ⟨hwf, hc⟩ := hS N D hw hN
  refine @CX.callV P ops Q n e0 env L rest dst ty pos aft g k inst y first.toArray cap.toArray [] #[] [] (H D) L' pre _ hg hy rfl (by simpa using hc) hsel hpre ?_
  rintro u M ⟨rfl, rfl⟩
  exact h hwf
end
end Go.Cx
namespace Go.Proofs.Ytlckhaodecdbbaa
open Go.Cx
attribute [local irreducible] Go.Cx.CX Go.Cx.CC Go.Cx.CQ Go.Cx.PS Go.Cx.Ctr Go.Cx.CH
set_option maxRecDepth 10000
theorem jlay1_c (p d : Nat) (J : JM) (b4 b5 q10 q11 : Nat) (at_ i : Nat) (hat : at_ ≤ 1000000) (hi : i ≤ 1000000) (b : Blk) (hb : WB b) (D : DS) {N : Nat} (h : D.wf N) (hN : N < 1000000) :
    Ctr Try.prog 160 [.pointer (some ⟨b4, 0, none⟩), .pointer (some ⟨b5, 0, none⟩), .pointer (some ⟨q10, 0, none⟩), .pointer (some ⟨q11, 0, none⟩)] [bk p 120 (jrc d J), disk d D]
      (fun x => rdx (some ⟨b4, 0, none⟩) 1 [.pointer (some ⟨p, 0, none⟩)] x ∧ rdx (some ⟨b5, 0, none⟩) 1 [.int .i64 (at_ : Int)] x ∧ rdx (some ⟨q10, 0, none⟩) 1 [.int .i64 (i : Int)] x ∧ rdx (some ⟨q11, 0, none⟩) 128 (cb b) x)
      (fun v M => v = .int .i64 (D.write ((at_ : Int) + (i : Int)) b).1 ∧ M = [bk p 120 (jrc d J), disk d (D.write ((at_ : Int) + (i : Int)) b).2]) := by
  refine Ctr.intro Try.func160 rfl Try.ntmps160 rfl fun x w hp => ?_
  obtain ⟨hp1, hp2, hp3, hp4⟩ := hp
  refine wk ?_
  refine CC.draw [(0, 1), (1, 0), (2, 0), (3, 1), (4, 1), (5, 1), (6, 0), (7, 1), (8, 2), (9, 0)] mixed rfl (by kernel_rfl) (by kernel_rfl) [bk p 120 (jrc d J), exact x] ?_
  (apply CH.read; (· rfl); (· apply PS.load (v := .pointer (some ⟨p, 0, none⟩)); (· rfl); (· rfl); (· exact cell_rdx1 (by first | exact pickA | exact updA) hp1)); (· exact selA))
  refine hwk ?_
  (apply CH.read; (· rfl); (· apply PS.load (v := .int .i64 (at_ : Int)); (· rfl); (· rfl); (· exact cell_rdx1 (by first | exact pickA | exact updA) hp2)); (· exact selA))
  (apply CH.read; (· rfl); (· apply PS.load (v := .int .i64 (i : Int)); (· rfl); (· rfl); (· exact cell_rdx1 (by first | exact pickA | exact updA) hp3)); (· exact selA))
  refine hwk ?_
  (apply CH.read; (· rfl); (· apply PS.loadG (vs := cb b); (· rfl); (· rfl); (· exact cells_rdxN (by first | exact pickA | exact updA) (by decide) hp4); (· exact hb.len)); (· exact selA))
  refine CH.chain rfl fun K hK => ?_
  refine CX.callA (write_c d D ((at_ : Int) + (i : Int)) b hb h hN) ?_
  rintro _ _ ⟨rfl, rfl⟩
  (refine CX.nil ?_; refine CQ.thenK ?_; apply hK; (· exact selA); clear hK K)
  refine hwk ?_
  refine wk ?_
  ((apply CQ.end1; (· rfl); (· exact .tmp rfl)); (· exact ⟨rfl, rfl⟩); (· exact selA))
theorem jlay2_c (p d : Nat) (J : JM) (hJ : J.n < 4611686018427387904) (b4 b7 : Nat) (k : HdM) (hk : k.ok) (D : DS) {N : Nat} (h : D.wf N) (hN : N < 1000000) :
    Ctr Try.prog 161 [.pointer (some ⟨b4, 0, none⟩), .pointer (some ⟨b7, 0, none⟩)] [bk p 120 (jrc d J), disk d D]
      (fun x => rdx (some ⟨b4, 0, none⟩) 1 [.pointer (some ⟨p, 0, none⟩)] x ∧ rdx (some ⟨b7, 0, none⟩) 3 (hc k) x)
      (fun v M => v = .int .i64 (markM J k D).1 ∧ M = [bk p 120 (jrc d J), disk d (markM J k D).2]) := by
  refine Ctr.intro Try.func161 rfl Try.ntmps161 rfl fun x w hp => ?_
  obtain ⟨hp1, hp2⟩ := hp
  refine wk ?_
  (apply CX.ps; (· apply PS.load (v := .pointer (some ⟨p, 0, none⟩)); (· rfl); (· rfl); (· exact cell_rdx1 (by first | exact pickA | exact updA) hp1)))
  (apply CX.ps; (· apply PS.loadG (vs := hc k); (· rfl); (· rfl); (· exact cells_rdxN (by first | exact pickA | exact updA) (by decide) hp2); (· rfl)))
  refine CX.callA (jmark_c p d J hJ k hk D h hN) ?_
  rintro _ _ ⟨rfl, rfl⟩
  refine wk ?_
  ((apply CQ.end1; (· rfl); (· exact .tmp rfl)); (· exact ⟨rfl, rfl⟩); (· exact selA))
theorem jrun_c (H : DS → List Assn) (hH : ∃ p d J, H = fun D => [bk p 120 (jrc d J), disk d D]) (ss : List (Value × (DS → Int × DS))) (a : Option Addr) (c : Nat) (pre : PH → Prop) (hmono : ∀ x y, Le x y → pre x → pre y) (hs : ∀ s ∈ ss, StepOk Try.prog H s.1 s.2 pre) (D : DS) {N : Nat} (h : D.wf N) (hN : N + ss.length < 999990) :
    Ctr Try.prog 163 [.slice a ss.length c] (H D) (fun x => rdx a ss.length (ss.map (·.1)) x ∧ pre x) (fun v M => v = .int .i64 (runM (ss.map (·.2)) D).1 ∧ M = H (runM (ss.map (·.2)) D).2 ∧ (runM (ss.map (·.2)) D).2.wf (N + ss.length)) := by
  obtain ⟨p, d, J, rfl⟩ := hH
  refine Ctr.intro Try.func163 rfl Try.ntmps163 rfl fun x w hp => ?_
  obtain ⟨hp1, hp2⟩ := hp
  dsimp only
  refine wk ?_
  refine CC.loop (X := Nat × DS) (fun s => [(8, .int .i64 (s.1 : Int)), (7, .int .i64 (ss.length : Int)), (6, .slice a ss.length c)])
    (fun s => [bk p 120 (jrc d J), disk d s.2, exact x]) (fun s => s.1 ≤ ss.length ∧ s.2.wf (N + s.1) ∧ runM (ss.map (·.2)) D = runM ((ss.drop s.1).map (·.2)) s.2) (fun s => ss.length - s.1) (0, D) ⟨Nat.zero_le _, h, rfl⟩ ⟨rfl, rfl, rfl, trivial⟩ (by exact selA) ?_
  rintro ⟨i, E⟩ ⟨hi, hE, hrun⟩
  dsimp only at hi hE hrun ⊢
  by_cases h1 : i < ss.length
  · obtain ⟨g, off, rfl⟩ := rdx_some hp1 (by omega)
    rw [List.drop_eq_getElem_cons h1, List.map_cons, runM] at hrun
    have hst := hs ss[i] (List.getElem_mem h1)
    have hcell : ∀ (L L' : List Assn), Pick (exact x) L L' → CellAt L g (off + i * 1) (ss[i]).1 := fun L L' pk y hy => by
      rcases hp1 with hp1 | ⟨g', off', cs, t, fr, e, hx, hc⟩
      · omega
      · simp only [Option.some.injEq, Addr.mk.injEq, and_true] at e
        obtain ⟨rfl, rfl⟩ := e
        exact ⟨cs, t, fr, pk.ok hy _ _ hx, by rw [Nat.mul_one]; exact hc i _ (by simp [h1])⟩
    generalize ss[i] = s at *
    refine wk ?_
    (refine CX.indexA (i) ?_ ?_; (· exact h1))
    (apply CX.ps; (· apply PS.load (v := s.1); (· rfl); (· rfl); (· exact hcell _ _ (by first | exact pickA | exact updA))))
    refine wk ?_
    refine CX.callS hst hE (by omega) ?_ rfl (by exact selA) (fun y hy => hmono x y (Pick.ok (show Pick (exact x) _ _ from by first | exact pickA | exact updA) hy) hp2)
    intro hwf
    by_cases he : (s.2 E).1 = 0
    · rw [if_neg (by simp [he])] at hrun
      rw [he]
      refine wk ?_
      exact CQ.round (x := (i, E)) (i + 1, (s.2 E).2) ⟨by dsimp only; omega, by dsimp only; rw [← Nat.add_assoc]; exact hwf, hrun⟩ (by dsimp only; omega) ⟨eqI (by simp), rfl, rfl, trivial⟩ (by exact selA)
    · rw [if_pos he] at hrun
      rw [hrun]
      refine wk ?_
      (apply CQ.end1; (· rfl); (· exact .tmp rfl))
      · exact ⟨rfl, rfl, wf_up hwf (by omega)⟩
      · exact selA
  · obtain rfl : i = ss.length := by omega
    rw [List.drop_length, List.map_nil, runM] at hrun
    rw [hrun]
    refine wk ?_
    (apply CQ.end1; (· rfl); (· exact .tmp rfl))
    · exact ⟨rfl, rfl, hE⟩
    · exact selA
end Go.Proofs.Ytlckhaodecdbbaa
/-! What the journal lays (lay), in the program. -/
namespace Go.Cx
theorem bx_snoc {bs : List (Nat × Nat)} {l : List Blk} {t1 t2 q10 q11 i : Nat} {b : Blk} (hw : WB b) (hbs : bs.length = i) (hi : l.getD i [] = b) (h : PH) (s : (bxA bs l).ok h) (k1 : (bk q10 t1 [.int .i64 (i : Int)]).ok h) (k2 : (bk q11 t2 (cb b)).ok h) : (bxA (bs ++ [(q10, q11)]) l).ok h := bxA_ok.2 fun j hj => by
  have s' := bxA_ok.1 s
  by_cases e : j < bs.length
  · rw [List.getElem_append_left e]; exact s' j e
  · have ej : j = i := by rw [List.length_append, List.length_singleton] at hj; omega
    have eg : (bs ++ [(q10, q11)])[j] = (q10, q11) := by rw [List.getElem_append_right (by omega)]; simp
    rw [eg]
    refine ⟨?_, ?_⟩
    · have := bk_at k1; rw [ej]; exact this
    · have := bk_at k2; rw [hw.len] at this; rw [ej, hi]; exact this
theorem rdx_bkok {b t n : Nat} {cs : List Value} {L L' : List Assn} (p : Pick (bk b t cs) L L') (hn : cs.length = n) : ∀ y, Sep L y → rdx (some ⟨b, 0, none⟩) n cs y := fun y hy => by
  have := bk_at (p.ok hy); rwa [hn] at this
theorem layS_len (J : JM) (at_ : Nat) (l : List Blk) (h : HdM) : (layS J at_ l h).length = l.length + 3 := by simp [layS, writesM]
end Go.Cx
namespace Go.Proofs.Ytlckhaodecdbbaa
open Go.Cx
attribute [local irreducible] Go.Cx.CX Go.Cx.CC Go.Cx.CQ Go.Cx.PS Go.Cx.Ctr Go.Cx.CH
set_option maxRecDepth 10000
def stepV (b4 b5 : Nat) (q : Nat × Nat) : Value := .func (.func 160) #[] #[.pointer (some ⟨b4, 0, none⟩), .pointer (some ⟨b5, 0, none⟩), .pointer (some ⟨q.1, 0, none⟩), .pointer (some ⟨q.2, 0, none⟩)]
def flV (d : Nat) : Value := .func (.func 23) #[.pointer (some ⟨d, 0, none⟩)] #[]
def mkV (b4 b7 : Nat) : Value := .func (.func 161) #[] #[.pointer (some ⟨b4, 0, none⟩), .pointer (some ⟨b7, 0, none⟩)]
theorem one_steps (b4 b5 b7 d : Nat) (bs : List (Nat × Nat)) : ∀ u ∈ bs.map (stepV b4 b5) ++ [flV d, mkV b4 b7, flV d], u.oneCell' = true := fun u hu => by
  rcases List.mem_append.1 hu with hu | hu
  · obtain ⟨q, _, rfl⟩ := List.mem_map.1 hu; rfl
  · simp only [List.mem_cons, List.not_mem_nil, or_false] at hu
    rcases hu with rfl | rfl | rfl <;> rfl
/-- What the steps read. -/
def stPre (p b4 b5 b7 at_ : Nat) (k : HdM) (bs : List (Nat × Nat)) (l : List Blk) (x : PH) : Prop :=
  rdx (some ⟨b4, 0, none⟩) 1 [.pointer (some ⟨p, 0, none⟩)] x ∧ rdx (some ⟨b5, 0, none⟩) 1 [.int .i64 (at_ : Int)] x ∧ rdx (some ⟨b7, 0, none⟩) 3 (hc k) x ∧ bxAt bs l x
theorem stPre_mono {p b4 b5 b7 at_ : Nat} {k : HdM} {bs : List (Nat × Nat)} {l : List Blk} (x y : PH) (h : Le x y) (s : stPre p b4 b5 b7 at_ k bs l x) : stPre p b4 b5 b7 at_ k bs l y :=
  ⟨rdx_mono s.1 h, rdx_mono s.2.1 h, rdx_mono s.2.2.1 h, bxAt_mono s.2.2.2 h⟩
theorem Ctr.weakPre {f : FuncId} {args : List Value} {H : List Assn} {pre : PH → Prop} {post : Value → List Assn → Prop} (S : Ctr Try.prog f args H (fun _ => True) post) : Ctr Try.prog f args H pre post := Ctr.mono S (fun _ _ => trivial) (fun _ _ h => h)
theorem steps_ok (p d b4 b5 b7 at_ : Nat) (J : JM) (hJ : J.n < 4611686018427387904) (k : HdM) (hk : k.ok) (bs : List (Nat × Nat)) (l : List Blk) (hW : ∀ b ∈ l, WB b) (hbs : bs.length = l.length) (hat : at_ ≤ 1000000) (hll : l.length ≤ 5000) :
    ∀ s ∈ (bs.map (stepV b4 b5) ++ [flV d, mkV b4 b7, flV d]).zip (layS J at_ l k), StepOk Try.prog (fun D => [bk p 120 (jrc d J), disk d D]) s.1 s.2 (stPre p b4 b5 b7 at_ k bs l) := by
  intro s hs
  have hfl : StepOk Try.prog (fun D => [bk p 120 (jrc d J), disk d D]) (flV d) DS.flush (stPre p b4 b5 b7 at_ k bs l) :=
    ⟨23, [.pointer (some ⟨d, 0, none⟩)], [], rfl, inferInstance, fun N D h hN => ⟨flush_wf h, Ctr.conseq (Ctr.weakPre (Ctr.frame1 (flush_c d D h (by omega)))) fun v M hv => by
      obtain ⟨M', ⟨rfl, rfl⟩, rfl⟩ := hv
      exact ⟨_, ⟨rfl, rfl⟩, fun x h hs => Sep.swap hs⟩⟩⟩
  have hmk : StepOk Try.prog (fun D => [bk p 120 (jrc d J), disk d D]) (mkV b4 b7) (markM J k) (stPre p b4 b5 b7 at_ k bs l) :=
    ⟨161, [], [.pointer (some ⟨b4, 0, none⟩), .pointer (some ⟨b7, 0, none⟩)], rfl, inferInstance, fun N D h hN => ⟨mark_wf h, Ctr.mono (jlay2_c p d J hJ b4 b7 k hk D h (by omega)) (fun x hx => ⟨hx.1, hx.2.2.1⟩) (fun _ _ h => h)⟩⟩
  obtain ⟨i, hi, rfl⟩ := List.getElem_of_mem hs
  rw [List.getElem_zip]
  have hi2 : i < l.length + 3 := by simp [layS_len, hbs] at hi; omega
  have hlw : (writesM at_ l).length = l.length := by simp [writesM]
  by_cases h1 : i < l.length
  · have e1 : (bs.map (stepV b4 b5) ++ [flV d, mkV b4 b7, flV d])[i]'(by simp; omega) = stepV b4 b5 (bs[i]'(by omega)) := by
      rw [List.getElem_append_left (by simpa [hbs] using h1)]; simp
    have e2 : (layS J at_ l k)[i]'(by rw [layS_len]; omega) = fun D => D.write ((at_ : Int) + (i : Int)) l[i] := by
      simp only [layS]
      rw [List.getElem_append_left (by rw [hlw]; exact h1)]
      simp [writesM, h1]
    rw [e1, e2]
    have hb := hW l[i] (List.getElem_mem h1)
    refine ⟨160, [], [.pointer (some ⟨b4, 0, none⟩), .pointer (some ⟨b5, 0, none⟩), .pointer (some ⟨(bs[i]'(by omega)).1, 0, none⟩), .pointer (some ⟨(bs[i]'(by omega)).2, 0, none⟩)], rfl, inferInstance, fun N D h hN => ⟨write_wf h _ hb, Ctr.mono (jlay1_c p d J b4 b5 _ _ at_ i hat (by omega) l[i] hb D h (by omega)) (fun x hx => ⟨hx.1, hx.2.1, ?_⟩) (fun _ _ h => h)⟩⟩
    have := hx.2.2.2 i (by omega)
    have eg : l.getD i [] = l[i] := by simp [List.getD, h1]
    rw [eg] at this
    exact this
  · obtain ⟨j, rfl⟩ : ∃ j, i = l.length + j := ⟨i - l.length, by omega⟩
    have hj : j < 3 := by omega
    have e1 : (bs.map (stepV b4 b5) ++ [flV d, mkV b4 b7, flV d])[l.length + j]'(by simp; omega) = [flV d, mkV b4 b7, flV d][j] := by
      rw [List.getElem_append_right (by simp; omega)]; simp [hbs]
    have e2 : (layS J at_ l k)[l.length + j]'(by rw [layS_len]; omega) = [DS.flush, markM J k, DS.flush][j] := by
      simp only [layS]
      rw [List.getElem_append_right (by omega)]; simp [hlw]
    rw [e1, e2]
    match j, hj with
    | 0, _ => exact hfl
    | 1, _ => exact hmk
    | 2, _ => exact hfl
theorem jlay_c (p d : Nat) (J : JM) (hJ : J.n < 4611686018427387904) (at_ : Nat) (hat : at_ ≤ 1000000) (l : List Blk) (hW : ∀ b ∈ l, WB b) (hll : l.length ≤ 5000) (a : Option Addr) (c : Nat) (k : HdM) (hk : k.ok) (D : DS) {N : Nat} (h : D.wf N) (hN : N + l.length + 3 < 999990) :
    Ctr Try.prog 137 [.pointer (some ⟨p, 0, none⟩), .int .i64 (at_ : Int), .slice a l.length c, .agg (hc k).toArray] [bk p 120 (jrc d J), disk d D] (fun x => rdx a (l.length * 128) (flat l) x)
    (fun v M => v = .int .i64 (layM J at_ l k D).1 ∧ M = [bk p 120 (jrc d (layM J at_ l k D).2.1), disk d (layM J at_ l k D).2.2] ∧ (layM J at_ l k D).2.2.wf (N + l.length + 3)) := by
  refine Ctr.intro Try.func137 rfl Try.ntmps137 rfl fun x w hp => ?_
  refine wk ?_
  (apply CX.box; (· rfl); (· rfl); intro b4)
  (apply CX.box; (· rfl); (· rfl); intro b5)
  (refine CX.boxA (vs := hc k) ?_; intro b7)
  refine wk ?_
  refine CC.ownNil 32 1 ?_
  refine CC.give (bxA [] l) (fun _ => bxA_ok.2 fun j hj => by simp at hj) ?_
  refine CC.loop (X := Nat × Option Addr × Nat × List (Nat × Nat)) (fun s => [(15, .int .i64 (s.1 : Int)), (14, .int .i64 (l.length : Int)), (13, .slice a l.length c), (4, .pointer (some ⟨b4, 0, none⟩)), (5, .pointer (some ⟨b5, 0, none⟩)), (7, .pointer (some ⟨b7, 0, none⟩)), (9, .slice s.2.1 s.1 s.2.2.1)])
    (fun s => [own 32 1 s.2.1 s.1 s.2.2.1 (s.2.2.2.map (stepV b4 b5)), bxA s.2.2.2 l, bk p 120 (jrc d J), disk d D, bk b4 111 [.pointer (some ⟨p, 0, none⟩)], bk b5 3 [.int .i64 (at_ : Int)], bk b7 68 (hc k), exact x])
    (fun s => s.1 ≤ l.length ∧ s.2.2.2.length = s.1) (fun s => l.length - s.1) (0, none, 0, []) ⟨Nat.zero_le _, rfl⟩ ⟨rfl, rfl, rfl, rfl, rfl, rfl, rfl, trivial⟩ (by exact selA) ?_
  rintro ⟨i, a9, c9, bs⟩ ⟨hi, hbs⟩
  dsimp only at hi hbs ⊢
  by_cases h1 : i < l.length
  · obtain ⟨g, off, rfl⟩ := rdx_some hp (by omega)
    have hb := hW l[i] (List.getElem_mem h1)
    have eg : l.getD i [] = l[i] := by simp [List.getD, h1]
    refine wk ?_
    (refine CX.indexA (i) ?_ ?_; (· exact h1))
    (apply CX.ps; (· apply PS.loadG (vs := cb l[i]); (· rfl); (· rfl); (· exact CellsAt.row (by first | exact pickA | exact updA) hp (by omega) (fun y hy => (hW y hy).len) h1); (· exact hb.len)))
    refine CX.allocZ [.int .i64 0] ?_ (hv := rfl)
    intro q10
    refine CX.allocZ (cb zblk) ?_
    intro q11
    refine CX.storeA ?_
    (apply CX.storeAll; (· rfl); (· rfl); (· rfl); (· first | exact pickA | exact updA); (· exact hb.len); (· exact WB_z.len); (· exact one_cb _))
    refine wk ?_
    refine CX.merge3 (bxA (bs ++ [(q10, q11)]) l) (bx_snoc (t1 := 3) (t2 := 29) (i := i) hb hbs eg) ?_
    refine CX.buildSl (parts := [(0, _)]) (vs := [(0, stepV b4 b5 (q10, q11))]) (out := [stepV b4 b5 (q10, q11)]) rfl rfl (by decide) (by simp [fillL, Value.cells, setL, stepV]) fun bq => ?_
    refine CX.append (m := 1) (news := [stepV b4 b5 (q10, q11)]) rfl rfl rfl (by first | exact pickA | exact updA) (RdS.pick (b := bq) (o := 0) (by first | exact pickA | exact updA) rfl (one_all rfl) rfl) (by omega) (fun h => by cases h) ?_
    intro a3 c3
    refine wk ?_
    exact CQ.round (x := (i, a9, c9, bs)) (i + 1, a3, c3, bs ++ [(q10, q11)]) ⟨by dsimp only; omega, by simp [hbs]⟩ (by dsimp only; omega) ⟨eqI (by simp), rfl, rfl, rfl, rfl, rfl, rfl, trivial⟩ (by simp only [List.map_append, List.map_cons, List.map_nil]; exact selA)
  obtain rfl : i = l.length := by omega
  refine wk ?_
  refine CC.draw [(0, 0), (1, 1), (2, 0), (3, 0), (4, 1), (5, 0), (6, 0), (7, 1), (8, 0), (9, 0), (10, 1), (11, 0), (12, 2), (13, 2), (14, 0)] mixed rfl (by kernel_rfl) (by kernel_rfl) [bk p 120 (jrc d J), bk b4 111 [.pointer (some ⟨p, 0, none⟩)]] ?_
  refine hwk ?_
  refine CH.chain rfl fun K hK => ?_
  refine CX.buildSl (parts := [(0, _), (1, _), (2, _)]) (vs := [(0, flV d), (1, mkV b4 b7), (2, flV d)]) (out := [flV d, mkV b4 b7, flV d]) rfl rfl (by decide) (by simp [fillL, Value.cells, setL, flV, mkV]) fun bq => ?_
  (refine CX.nil ?_; refine CQ.thenK ?_; apply hK; (· exact selA); clear hK K)
  refine CH.chain rfl fun K hK => ?_
  refine CX.append (m := 3) (news := [flV d, mkV b4 b7, flV d]) rfl rfl rfl (by first | exact pickA | exact updA) (RdS.pick (b := bq) (o := 0) (by first | exact pickA | exact updA) rfl (one_all rfl) rfl) (by omega) (fun h => by cases h) ?_
  intro a10 c10
  (refine CX.nil ?_; refine CQ.thenK ?_; apply hK; (· exact selA); clear hK K)
  refine hwk ?_
  have hrun := jrun_c (fun D => [bk p 120 (jrc d J), disk d D]) ⟨p, d, J, rfl⟩ ((bs.map (stepV b4 b5) ++ [flV d, mkV b4 b7, flV d]).zip (layS J at_ l k)) a10 c10 (stPre p b4 b5 b7 at_ k bs l) stPre_mono (steps_ok p d b4 b5 b7 at_ J hJ k hk bs l hW hbs hat hll) D h (by simp [layS_len, hbs]; omega)
  have hzl : ((bs.map (stepV b4 b5) ++ [flV d, mkV b4 b7, flV d]).zip (layS J at_ l k)).length = l.length + 3 := by simp [layS_len, hbs]
  rw [hzl, List.map_fst_zip (by simp [layS_len, hbs]), List.map_snd_zip (by simp [layS_len, hbs])] at hrun
  have hlay : layM J at_ l k D = if (runM (layS J at_ l k) D).1 ≠ 0 then ((runM (layS J at_ l k) D).1, J, (runM (layS J at_ l k) D).2) else (0, ⟨J.n + 1, k⟩, (runM (layS J at_ l k) D).2) := rfl
  generalize runM (layS J at_ l k) D = r at *
  generalize layM J at_ l k D = y at *
  refine wk ?_
  refine CX.callA (hrun) ?_ (hpre := by exact fun z hz => ⟨by have := own_rdx (Pick.ok (show Pick (own 32 1 a10 (l.length + 3) c10 (bs.map (stepV b4 b5) ++ [flV d, mkV b4 b7, flV d])) _ _ from by first | exact pickA | exact updA) hz) (one_steps b4 b5 b7 d bs); rwa [Nat.mul_one] at this, rdx_bkok (t := 111) (by first | exact pickA | exact updA) rfl z hz, rdx_bkok (t := 3) (by first | exact pickA | exact updA) rfl z hz, rdx_bkok (t := 68) (by first | exact pickA | exact updA) rfl z hz, bxA_ok.1 (Pick.ok (show Pick (bxA bs l) _ _ from by first | exact pickA | exact updA) hz)⟩)
  rintro _ _ ⟨rfl, rfl, hwf⟩
  by_cases he : r.1 = 0
  rotate_left
  · rw [if_pos he] at hlay
    subst hlay
    refine wk ?_
    (apply CQ.end1; (· rfl); (· exact .tmp rfl))
    · exact ⟨rfl, rfl, by rw [Nat.add_assoc]; exact hwf⟩
    · exact selA
  rw [if_neg (by simp [he])] at hlay
  subst hlay
  rw [he]
  refine wk ?_
  refine CC.draw [(0, 1), (1, 1), (2, 1), (7, 1), (3, 0), (4, 0), (5, 2), (6, 0), (8, 0), (9, 0), (10, 2), (11, 0), (12, 0), (13, 2)] mixed rfl (by kernel_rfl) (by kernel_rfl) [bk b4 111 [.pointer (some ⟨p, 0, none⟩)], bk b7 68 (hc k)] ?_
  refine hwk ?_
  (apply CH.read; (· rfl); (· apply PS.loadG (vs := hc k); (· rfl); (· rfl); (· exact CellsAt.all (by first | exact pickA | exact updA)); (· rfl)); (· exact selA))
  refine hwk ?_
  refine CH.chain rfl fun K hK => ?_
  refine CX.psA ?_
  (refine CX.nil ?_; refine CQ.thenK ?_; apply hK; (· exact selA); clear hK K)
  refine hwk ?_
  refine CH.chain rfl fun K hK => ?_
  refine CX.storeA ?_
  (refine CX.nil ?_; refine CQ.thenK ?_; apply hK; (· exact selA); clear hK K)
  refine hwk ?_
  refine CH.chain rfl fun K hK => ?_
  have e5 : setL ((jrc d J).set (0 + 1) (.int .u64 ((J.n : Int) + 1))) (0 + 2) (Value.agg (hc k).toArray).cells.toList = jrc d ⟨J.n + 1, k⟩ := by
    simp [jrc, setL, hc, Value.cells]
  refine CX.storeC (cs := (jrc d J).set (0 + 1) (.int .u64 ((J.n : Int) + 1))) (bt := 120) rfl rfl rfl rfl (one_all rfl) (by first | exact pickA | exact updA) (by simp [jrc, hc, Value.cells]) ?_
  rw [e5]
  (refine CX.nil ?_; refine CQ.thenK ?_; apply hK; (· exact selA); clear hK K)
  refine hwk ?_
  refine wk ?_
  (apply CQ.end1; (· rfl); (· exact .tmp rfl))
  · exact ⟨rfl, rfl, by rw [Nat.add_assoc]; exact hwf⟩
  · exact selA
end Go.Proofs.Ytlckhaodecdbbaa
/-! What the journal reads (read), in the program. -/
namespace Go.Cx
/-- Bytes of slices, somewhere. -/
@[irreducible] def valS (l : List SlB) : Assn where
  ok h := ∀ r ∈ l, r.ok h
  mono := fun _ _ k e r hr => (e r hr).mono k
theorem valS_ok {l : List SlB} {h : PH} : (valS l).ok h ↔ ∀ r ∈ l, r.ok h := by
  unfold valS; exact Iff.rfl
def bsAt (a : Option Addr) (l : List SlB) (h : PH) : Prop := rdx a l.length (rows SlB.cells l) h ∧ ∀ r ∈ l, r.ok h
theorem bsAt_mono {a : Option Addr} {l : List SlB} {x y : PH} (h : bsAt a l x) (k : Le x y) : bsAt a l y := ⟨rdx_mono h.1 k, fun r hr => (h.2 r hr).mono k⟩
@[irreducible] def bsA (a : Option Addr) (l : List SlB) : Assn where
  ok h := bsAt a l h
  mono := fun _ _ k e => bsAt_mono e k
theorem bsA_ok {a : Option Addr} {l : List SlB} {h : PH} : (bsA a l).ok h ↔ bsAt a l h := by
  unfold bsA; exact Iff.rfl
theorem one_sl (l : List SlB) : ∀ u ∈ rows SlB.cells l, u.oneCell' = true := fun u hu => by
  simp only [rows, List.mem_flatten, List.mem_map] at hu
  obtain ⟨_, ⟨r, _, rfl⟩, hu⟩ := hu
  simp only [SlB.cells, List.mem_singleton] at hu
  subst hu; rfl
theorem own_bs {e c : Nat} {a : Option Addr} {l : List SlB} (h : PH) (s : (own e 1 a l.length c (rows SlB.cells l)).ok h) (t : (valS l).ok h) : (bsA a l).ok h := bsA_ok.2 ⟨by have := own_rdx s (one_sl l); rwa [Nat.mul_one] at this, valS_ok.1 t⟩
theorem bs_nil (k : PH) : (bsA none []).ok k := bsA_ok.2 ⟨.inl rfl, fun _ h => by cases h⟩
theorem valS_snoc {e c : Nat} {a : Option Addr} {b : Blk} {l : List SlB} (h : PH) (s : (valS l).ok h) (t : (own e 1 a b.length c (cb b)).ok h) : (valS (l ++ [⟨a, b, c⟩])).ok h := valS_ok.2 fun r hr => by
  rcases List.mem_append.1 hr with hr | hr
  · exact valS_ok.1 s r hr
  · obtain rfl := List.mem_singleton.1 hr
    exact own_SlB t
theorem rdx_cut {g o cap len l : Nat} {B : Blk} {y : PH} (h : rdx (some ⟨g, o, none⟩) len (cb B) y) (hl : len = B.length) (hlen : l ≤ len) (hc : len ≤ cap) : rdx (some ⟨g, if cap = l then o else o + l * 1, none⟩) (len - l) (cb (B.drop l)) y := by
  by_cases hcl : cap = l
  · exact .inl (by omega)
  · rw [if_neg hcl, Nat.mul_one]
    have := rdx_part rfl h hl l (len - l) (by omega)
    rwa [List.take_of_length_le (by simp; omega)] at this
theorem rdx_cut2 {g o cap len l m : Nat} {B : Blk} {y : PH} (h : rdx (some ⟨g, o, none⟩) len (cb B) y) (hl : len = B.length) (hlm : l ≤ m) (hm : m ≤ len) (hc : len ≤ cap) : rdx (cutAt (some ⟨g, o, none⟩) l cap 1) (m - l) (cb ((B.drop l).take (m - l))) y := by
  unfold cutAt
  by_cases hcl : cap = l
  · exact .inl (by omega)
  · rw [if_neg hcl]
    simp only [Option.map_some, addr_add, Nat.mul_one]
    exact rdx_part rfl h hl l (m - l) (by omega)
theorem own_rd {e n c : Nat} {a : Option Addr} {B : Blk} (h : PH) (s : (own e 1 a n c (cb B)).ok h) : (rd a n (cb B)).ok h := rd_ok.2 (by have := own_rdx s (one_cb B); rwa [Nat.mul_one] at this)
theorem upB_ge (n : Nat) : n ≤ upB n := by unfold upB; omega
theorem upB_le {n m : Nat} (h : n ≤ m) (hm : m % 128 = 0) : upB n ≤ m := by unfold upB; omega
end Go.Cx
namespace Go.Proofs.Ytlckhaodecdbbaa
open Go.Cx
attribute [local irreducible] Go.Cx.CX Go.Cx.CC Go.Cx.CQ Go.Cx.PS Go.Cx.Ctr Go.Cx.CH
set_option maxRecDepth 10000
theorem read1_c (c : UInt8) : Ctr Try.prog 165 [.int .u8 (c.toNat : Int)] [] (fun _ => True) (fun v M => v = .bool (decide (c ≠ 0)) ∧ M = []) := by
  refine Ctr.intro Try.func165 rfl Try.ntmps165 rfl fun x w hp => ?_
  have e : decide (c ≠ 0) = decide ((c.toNat : Int) ≠ 0) := by
    refine decide_eq_decide.2 ⟨fun h => u8_ne h, fun h hc => h (u8_int hc)⟩
  rw [e]
  refine wk ?_
  ((apply CQ.end1; (· rfl); (· exact .tmp rfl)); (· exact ⟨rfl, rfl⟩); (· exact selA))
theorem idxB_c (C : Blk) (hl : C.length ≤ 9223372036854775806) (a : Option Addr) (cap : Nat) : Ctr Try.prog 170 [.slice a C.length cap, .func (.func 165) #[] #[]] [] (fun x => rdx a C.length (cb C) x) (fun v M => ∃ z : Int, v = .int .i64 z ∧ (0 ≤ z ↔ ∃ c ∈ C, c ≠ 0) ∧ M = []) := by
  refine Ctr.intro Try.func170 rfl Try.ntmps170 rfl fun x w hp => ?_
  refine wk ?_
  refine CC.loop (X := Nat) (fun i => [(8, .int .i64 (i : Int)), (7, .int .i64 (C.length : Int)), (0, .slice a C.length cap), (1, .func (.func 165) #[] #[])])
    (fun i => [exact x]) (fun i => i ≤ C.length ∧ ∀ j (hj : j < C.length), j < i → C[j] = 0) (fun i => C.length - i) 0 ⟨Nat.zero_le _, fun j h => by omega⟩ ⟨rfl, rfl, rfl, rfl, trivial⟩ (by exact selA) ?_
  rintro i ⟨hi, hpre⟩
  by_cases h1 : i < C.length
  · obtain ⟨g, off, rfl⟩ := rdx_some hp (by omega)
    by_cases h2 : C[i] = 0
    · refine wk ?_
      (refine CX.indexA (i) ?_ ?_; (· exact h1))
      (refine CX.loadA _ (CellAt.rd (j := i) (by first | exact pickA | exact updA) hp rfl h1) ?_)
      refine CX.callF (read1_c C[i]) ?_
      rw [decide_eq_false (fun h => h h2)]
      rintro _ _ ⟨rfl, rfl⟩
      refine wk ?_
      exact CQ.round (i + 1) ⟨by omega, fun j hj h => by
        by_cases e : j < i
        · exact hpre j hj e
        · obtain rfl : j = i := by omega
          exact h2⟩ (by omega) ⟨eqI (by omega), rfl, rfl, rfl, trivial⟩ (by exact selA)
    · refine wk ?_
      (refine CX.indexA (i) ?_ ?_; (· exact h1))
      (refine CX.loadA _ (CellAt.rd (j := i) (by first | exact pickA | exact updA) hp rfl h1) ?_)
      refine CX.callF (read1_c C[i]) ?_
      rw [decide_eq_true h2]
      rintro _ _ ⟨rfl, rfl⟩
      refine wk ?_
      (apply CQ.end1; (· rfl); (· exact .tmp rfl))
      · exact ⟨_, rfl, ⟨fun _ => ⟨C[i], List.getElem_mem h1, h2⟩, fun _ => by omega⟩, rfl⟩
      · exact selA
  · obtain rfl : i = C.length := by omega
    refine wk ?_
    (apply CQ.end1; (· rfl); (· exact .tmp rfl))
    · exact ⟨_, rfl, ⟨fun h => by omega, fun ⟨r, hr, hn⟩ => by
        obtain ⟨j, hj, rfl⟩ := List.getElem_of_mem hr
        exact absurd (hpre j hj hj) hn⟩, rfl⟩
    · exact selA
theorem conB_c (C : Blk) (hl : C.length ≤ 9223372036854775806) (a : Option Addr) (cap : Nat) : Ctr Try.prog 164 [.slice a C.length cap, .func (.func 165) #[] #[]] [] (fun x => rdx a C.length (cb C) x) (fun v M => v = .bool (decide (∃ c ∈ C, c ≠ 0)) ∧ M = []) := by
  refine Ctr.intro Try.func164 rfl Try.ntmps164 rfl fun x w hp => ?_
  refine wk ?_
  refine CX.callA (idxB_c C hl a cap) ?_ (hpre := by exact rdx_ex (by first | exact pickA | exact updA) hp)
  rintro _ _ ⟨z, rfl, hz, rfl⟩
  rw [show decide (∃ c ∈ C, c ≠ 0) = decide (0 ≤ z) from decide_eq_decide.2 hz.symm]
  refine wk ?_
  ((apply CQ.end1; (· rfl); (· exact .tmp rfl)); (· exact ⟨rfl, rfl⟩); (· exact selA))
end Go.Proofs.Ytlckhaodecdbbaa
/-! What the journal reads (read), in the program. -/
namespace Go.Cx
theorem rdAll_err {D : DS} {f i n : Nat} {acc : Blk} (h : (D.read ((f : Int) + (i : Int))).2 ≠ 0) : rdAll D f i (n + 1) acc = ([], (D.read ((f : Int) + (i : Int))).2) := by rw [rdAll, if_pos h]
theorem rdAll_go {D : DS} {f i n : Nat} {acc : Blk} (h : (D.read ((f : Int) + (i : Int))).2 = 0) : rdAll D f i (n + 1) acc = rdAll D f (i + 1) n (acc ++ (D.read ((f : Int) + (i : Int))).1) := by rw [rdAll, if_neg (by simp [h])]
/-- What read gives. -/
def ReadP (p d tj : Nat) (dk : DS → Assn) (J : JM) (D : DS) (v : Value) (M : List Assn) : Prop :=
  ∃ a c l, l.map SlB.b = (readM J D).1 ∧ v = .tuple #[.slice a l.length c, .int .i64 (readM J D).2] ∧ M = [bk p tj (jrc d J), dk D, bsA a l] ∧ (a = none → l.length = 0 ∧ c = 0) ∧ l.length ≤ c
end Go.Cx
namespace Go.Proofs.Ytlckhaodecdbbaa
open Go.Cx
attribute [local irreducible] Go.Cx.CX Go.Cx.CC Go.Cx.CQ Go.Cx.PS Go.Cx.Ctr Go.Cx.CH
set_option maxRecDepth 10000
def planR : Pl := .op 0 0 (.op 1 0 (.op 2 0 (.op 3 1 (.op 4 0 (.op 5 0 (.op 6 0 (.op 7 0 (.op 8 0 (.op 9 1 (.op 11 0 (.fork 10 17
  (.op 12 0 (.fork 13 17 (.op 14 0 (.op 15 0 (.op 16 0 (.op 17 2 (.op 18 2 (.op 19 0 .nil)))))) (.op 13 2 (.op 14 0 (.op 15 0 (.op 16 0 (.op 18 2 (.op 19 0 .nil))))))))
  (.op 10 2 (.op 12 0 (.op 13 2 (.op 14 0 (.op 15 0 (.op 16 0 (.op 18 2 (.op 19 0 .nil)))))))))))))))))))
set_option maxHeartbeats 1000000 in
theorem jread_c (p d : Nat) (J : JM) (hb : J.h.bank < 256) (hbt : J.h.batches < 4294967296) (hbk : J.h.blocks < 4294967296) (D : DS) {N : Nat} (h : D.wf N) (hN : N < 1000000) : Ctr Try.prog 140 [.pointer (some ⟨p, 0, none⟩)] [bk p 120 (jrc d J), disk d D] (fun _ => True)
    (ReadP p d 120 (disk d) J D) := by
  unfold ReadP
  have h2 := h.hi
  have hbank : bankM D ≤ 2048 := by unfold bankM; omega
  have hmul : J.h.bank * bankM D ≤ 256 * 2048 := Nat.mul_le_mul (by omega) hbank
  have hfst : firstM D J.h.bank ≤ 524290 := by unfold firstM; omega
  refine Ctr.intro Try.func140 rfl Try.ntmps140 rfl fun x w hp => ?_
  refine wk ?_
  refine CC.draw [(0, 0), (1, 0), (2, 0), (3, 0), (4, 1), (5, 0), (6, 0), (7, 2), (8, 0)] mixed rfl (by kernel_rfl) (by kernel_rfl) [bk p 120 (jrc d J)] ?_
  refine hwk ?_
  refine CH.chain rfl fun K hK => ?_
  refine CX.callA (jbank_c p d J D h) ?_
  rintro _ _ ⟨rfl, rfl⟩
  (refine CX.nil ?_; refine CQ.thenK ?_; apply hK; (· exact selA); clear hK K)
  by_cases h0 : bankM D < J.h.blocks
  · rw [show readM J D = ([], 5) by unfold readM; rw [if_pos h0]]
    refine hwk ?_
    refine wk ?_
    refine CQ.give (bsA none []) bs_nil ?_
    (apply CQ.end2; (· rfl); (· exact .tmp rfl); (· exact .tmp rfl))
    · exact ⟨none, 0, [], rfl, rfl, rfl, fun _ => ⟨rfl, rfl⟩, Nat.le_refl _⟩
    · exact selA
  have hrd : readM J D = if (rdAll D (firstM D J.h.bank) 0 J.h.blocks []).2 ≠ 0 then ([], (rdAll D (firstM D J.h.bank) 0 J.h.blocks []).2) else parseM J.h.batches [] (rdAll D (firstM D J.h.bank) 0 J.h.blocks []).1 := by
    unfold readM; rw [if_neg h0]
  refine hwk ?_
  refine wk ?_
  refine CC.ownNil 5 1 ?_
  refine CC.loop (X := Nat × Option Addr × Nat × Blk) (fun s => [(28, .int .i64 (s.1 : Int)), (27, .int .i64 (J.h.blocks : Int)), (0, .pointer (some ⟨p, 0, none⟩)), (4, .slice s.2.1 s.2.2.2.length s.2.2.1)])
    (fun s => [own 5 1 s.2.1 s.2.2.2.length s.2.2.1 (cb s.2.2.2), bk p 120 (jrc d J), disk d D, exact x])
    (fun s => s.1 ≤ J.h.blocks ∧ s.2.2.2.length = s.1 * 128 ∧ rdAll D (firstM D J.h.bank) 0 J.h.blocks [] = rdAll D (firstM D J.h.bank) s.1 (J.h.blocks - s.1) s.2.2.2) (fun s => J.h.blocks - s.1) (0, none, 0, []) ⟨Nat.zero_le _, rfl, rfl⟩ ⟨rfl, rfl, rfl, rfl, trivial⟩ (by exact selA) ?_
  rintro ⟨i, a4, c4, acc⟩ ⟨hi, hacc, hall⟩
  dsimp only at hi hacc hall ⊢
  by_cases h1 : i < J.h.blocks
  · rw [show J.h.blocks - i = (J.h.blocks - (i + 1)) + 1 by omega] at hall
    have hw := read_WB h ((firstM D J.h.bank : Int) + (i : Int))
    have herr := fun e => rdAll_err (D := D) (f := firstM D J.h.bank) (i := i) (n := J.h.blocks - (i + 1)) (acc := acc) e
    have hgo := fun e => rdAll_go (D := D) (f := firstM D J.h.bank) (i := i) (n := J.h.blocks - (i + 1)) (acc := acc) e
    have hread := read_c d D ((firstM D J.h.bank : Int) + (i : Int)) h hN
    have hfirst := jfirst_c p d J D J.h.bank hb h
    generalize D.read ((firstM D J.h.bank : Int) + (i : Int)) = u at *
    refine wk ?_
    refine CC.join (X := Nat) (fun b => [(28, .int .i64 (i : Int)), (27, .int .i64 (J.h.blocks : Int)), (0, .pointer (some ⟨p, 0, none⟩)), (4, .slice a4 acc.length c4), (6, .pointer (some ⟨b, 0, none⟩)), (7, .int .i64 u.2)])
      (fun b => [own 5 1 a4 acc.length c4 (cb acc), bk p 120 (jrc d J), disk d D, bk b 29 (cb u.1), exact x]) (fun _ => True) ?_ ?_
    · refine CC.drawP planR (fun _ => false) mixed rfl (by kernel_rfl) (by kernel_rfl) [bk p 120 (jrc d J)] ?_
      unfold planR
      refine hqk ?_
      refine CP.fork ?_ ?_
      · intro K hK
        refine CX.callA (hfirst) ?_
        rintro _ _ ⟨rfl, rfl⟩
        (refine CX.nil ?_; refine CQ.thenK ?_; apply hK; (· exact selA); clear hK K)
        refine hqk ?_
        refine CP.fork ?_ ?_
        · intro K hK
          refine CX.callA (hread) ?_
          rintro _ _ ⟨rfl, rfl⟩
          (refine CX.nil ?_; refine CQ.thenK ?_; apply hK; (· exact selA); clear hK K)
          refine hqk ?_
          refine CP.act ?_
          intro K hK
          refine CX.allocZ (cb zblk) ?_
          intro q8
          (refine CX.nil ?_; refine CQ.thenK ?_; apply hK; (· exact selA); clear hK K)
          refine CP.act ?_
          intro K hK
          (apply CX.storeAll; (· rfl); (· rfl); (· rfl); (· first | exact pickA | exact updA); (· exact hw.len); (· exact WB_z.len); (· exact one_cb _))
          (refine CX.nil ?_; refine CQ.thenK ?_; apply hK; (· exact selA); clear hK K)
          refine hqk ?_
          exact CQ.joined q8 trivial ⟨rfl, rfl, rfl, rfl, rfl, rfl, trivial⟩ (by exact selA)
        · intro K hK
          refine CX.allocZ (cb zblk) ?_
          intro q8
          (refine CX.nil ?_; refine CQ.thenK ?_; apply hK; (· exact selA); clear hK K)
          refine CP.act ?_
          intro K hK
          refine CX.callA (hread) ?_
          rintro _ _ ⟨rfl, rfl⟩
          (refine CX.nil ?_; refine CQ.thenK ?_; apply hK; (· exact selA); clear hK K)
          refine hqk ?_
          refine CP.act ?_
          intro K hK
          (apply CX.storeAll; (· rfl); (· rfl); (· rfl); (· first | exact pickA | exact updA); (· exact hw.len); (· exact WB_z.len); (· exact one_cb _))
          (refine CX.nil ?_; refine CQ.thenK ?_; apply hK; (· exact selA); clear hK K)
          refine hqk ?_
          exact CQ.joined q8 trivial ⟨rfl, rfl, rfl, rfl, rfl, rfl, trivial⟩ (by exact selA)
      · intro K hK
        refine CX.allocZ (cb zblk) ?_
        intro q8
        (refine CX.nil ?_; refine CQ.thenK ?_; apply hK; (· exact selA); clear hK K)
        refine CP.act ?_
        intro K hK
        refine CX.callA (hfirst) ?_
        rintro _ _ ⟨rfl, rfl⟩
        (refine CX.nil ?_; refine CQ.thenK ?_; apply hK; (· exact selA); clear hK K)
        refine hqk ?_
        refine CP.act ?_
        intro K hK
        refine CX.callA (hread) ?_
        rintro _ _ ⟨rfl, rfl⟩
        (refine CX.nil ?_; refine CQ.thenK ?_; apply hK; (· exact selA); clear hK K)
        refine hqk ?_
        refine CP.act ?_
        intro K hK
        (apply CX.storeAll; (· rfl); (· rfl); (· rfl); (· first | exact pickA | exact updA); (· exact hw.len); (· exact WB_z.len); (· exact one_cb _))
        (refine CX.nil ?_; refine CQ.thenK ?_; apply hK; (· exact selA); clear hK K)
        refine hqk ?_
        exact CQ.joined q8 trivial ⟨rfl, rfl, rfl, rfl, rfl, rfl, trivial⟩ (by exact selA)
    · intro q8 _
      by_cases he : u.2 = 0
      rotate_left
      · rw [herr he] at hall
        rw [hall] at hrd
        rw [if_pos he] at hrd
        rw [hrd]
        refine wk ?_
        refine CQ.give (bsA none []) bs_nil ?_
        (apply CQ.end2; (· rfl); (· exact .tmp rfl); (· exact .tmp rfl))
        · exact ⟨none, 0, [], rfl, rfl, rfl, fun _ => ⟨rfl, rfl⟩, Nat.le_refl _⟩
        · exact selA
      rw [hgo he] at hall
      rw [he]
      refine wk ?_
      refine CX.ps (PS.sliceArr (l := 0) (h := 128) rfl rfl rfl rfl (.inl ⟨rfl, rfl⟩) (.inl ⟨rfl, rfl⟩) (by omega) (by omega)) ?_
      rw [cutAt_zero]
      refine CX.append (m := 128 - 0) (news := cb u.1) rfl rfl rfl (by first | exact pickA | exact updA) (RdS.pick (b := q8) (o := 0) (by first | exact pickA | exact updA) hw.len (one_cb _) (by rw [List.drop_zero, List.take_of_length_le (by rw [hw.len]; omega)])) (by omega) (fun h => by cases h) ?_
      intro a5 c5
      rw [← cb_append]
      have hul : u.1.length = 128 := hw
      refine wk ?_
      exact CQ.round (x := (i, a4, c4, acc)) (i + 1, a5, c5, acc ++ u.1) ⟨by dsimp only; omega, by simp [hul]; omega, hall⟩ (by dsimp only; omega) ⟨eqI (by simp), rfl, rfl, slE (by simp [hul]), trivial⟩ (by simp only [List.length_append, hul]; exact selA)
  obtain rfl : i = J.h.blocks := by omega
  rw [Nat.sub_self, rdAll] at hall
  rw [hall, if_neg (by simp)] at hrd
  dsimp only at hrd
  refine CC.fact (own_none (e := 5) (sz := 1) (by first | exact pickA | exact updA)) ?_
  rintro ⟨-, hc4, -⟩
  refine wk ?_
  refine CC.turn (rd a4 acc.length (cb acc)) (own_rd (e := 5) (c := c4)) ?_
  refine CC.ownNil 45 1 ?_
  refine CC.give (valS []) (fun _ => valS_ok.2 fun _ h => by cases h) ?_
  refine CC.loop (X := Nat × Option Addr × Nat × Blk × Option Addr × Nat × List SlB) (fun s => [(60, .int .u32 (s.1 : Int)), (59, .int .u32 (J.h.batches : Int)), (0, .pointer (some ⟨p, 0, none⟩)), (4, .slice s.2.1 s.2.2.2.1.length s.2.2.1), (8, .slice s.2.2.2.2.1 s.2.2.2.2.2.2.length s.2.2.2.2.2.1)])
    (fun s => [rd s.2.1 s.2.2.2.1.length (cb s.2.2.2.1), own 45 1 s.2.2.2.2.1 s.2.2.2.2.2.2.length s.2.2.2.2.2.1 (rows SlB.cells s.2.2.2.2.2.2), valS s.2.2.2.2.2.2, bk p 120 (jrc d J), disk d D, exact x])
    (fun s => s.1 ≤ J.h.batches ∧ s.2.2.2.1.length ≤ s.2.2.1 ∧ s.2.2.2.1.length % 128 = 0 ∧ s.2.2.2.1.length ≤ 1048576 ∧ readM J D = parseM (J.h.batches - s.1) (s.2.2.2.2.2.2.map SlB.b) s.2.2.2.1 ∧ s.2.2.2.2.2.2.length ≤ s.1) (fun s => J.h.batches - s.1) (0, a4, c4, acc, none, 0, [])
    ⟨Nat.zero_le _, hc4, by dsimp only; omega, by dsimp only; omega, hrd, Nat.le_refl _⟩ ⟨rfl, rfl, rfl, rfl, rfl, trivial⟩ (by exact selA) ?_
  rintro ⟨j, av, cv, rem, a8, c8, l⟩ ⟨hj, hcv, hm, hrl, hpm, hlj⟩
  dsimp only at hj hcv hm hrl hpm hlj ⊢
  by_cases h1 : j < J.h.batches
  · rw [show J.h.batches - j = (J.h.batches - (j + 1)) + 1 by omega, parseM] at hpm
    have hgr := getrow_c rem (by omega) av cv hcv 0 1048576 (by decide) (by decide)
    unfold GotRow at hgr
    by_cases he : (Cx.rowAt rem 0 1048576).2.2 = 0
    rotate_left
    · rw [if_pos he] at hpm
      rw [hpm]
      generalize Cx.rowAt rem 0 1048576 = r at *
      refine wk ?_
      refine CX.callA (hgr) ?_ (hpre := by exact rdx_rd (by first | exact pickA | exact updA))
      rintro _ _ ⟨a9, c9, rfl, rfl⟩
      refine wk ?_
      refine CQ.give (bsA none []) bs_nil ?_
      (apply CQ.end2; (· rfl); (· exact .tmp rfl); (· exact .tmp rfl))
      · exact ⟨none, 0, [], rfl, rfl, rfl, fun _ => ⟨rfl, rfl⟩, Nat.le_refl _⟩
      · exact selA
    obtain ⟨-, hnx, hnl, hr1, -⟩ := rowAt_inv (b := rem) (r := (Cx.rowAt rem 0 1048576).1) (at_ := 0) (most := 1048576) (nx := (Cx.rowAt rem 0 1048576).2.1) (by rw [← he])
    rw [if_neg (by simp [he])] at hpm
    generalize Cx.rowAt rem 0 1048576 = r at *
    have hge := upB_ge r.2.1
    have hle := upB_le hnl hm
    have hCl : ((rem.drop r.2.1).take (upB r.2.1 - r.2.1)).length = upB r.2.1 - r.2.1 := by simp; omega
    have hcon := conB_c ((rem.drop r.2.1).take (upB r.2.1 - r.2.1)) (by omega) (cutAt av r.2.1 cv 1) (cv - r.2.1)
    rw [hCl] at hcon
    have hq : IntKind.i64.wrap (((r.2.1 : Int) + 128 - 1).tdiv 128) = (((r.2.1 + 127) / 128 : Nat) : Int) := by
      rw [tdiv_nn (by omega), wr_i64 (by omega) (by omega)]; omega
    have hmu : IntKind.i64.wrap ((((r.2.1 + 127) / 128 : Nat) : Int) * 128) = (upB r.2.1 : Int) := by
      unfold upB; rw [wr_i64 (by omega) (by omega)]; simp
    rw [he] at hgr
    refine CC.fact (p := ∃ g o, av = some ⟨g, o, none⟩) (fun y hy => rdx_some (rd_ok.1 (Pick.ok (show Pick (rd av rem.length (cb rem)) _ _ from by first | exact pickA | exact updA) hy)) (by omega)) ?_
    rintro ⟨g, o, rfl⟩
    have hpre : ∀ y, rdx (some ⟨g, o, none⟩) rem.length (cb rem) y → rdx (cutAt (some ⟨g, o, none⟩) r.2.1 cv 1) (upB r.2.1 - r.2.1) (cb ((rem.drop r.2.1).take (upB r.2.1 - r.2.1))) y := fun y hy => rdx_cut2 hy rfl hge hle hcv
    by_cases hz : ∃ c ∈ (rem.drop r.2.1).take (upB r.2.1 - r.2.1), c ≠ 0
    · rw [if_pos hz] at hpm
      rw [hpm]
      rw [decide_eq_true hz] at hcon
      refine wk ?_
      refine CX.callA (hgr) ?_ (hpre := by exact rdx_rd (by first | exact pickA | exact updA))
      rintro _ _ ⟨a9, c9, rfl, rfl⟩
      refine wk ?_
      refine CX.ps (PS.quo rfl rfl rfl (by decide) hq) ?_
      refine CX.ps (PS.mul rfl rfl rfl hmu) ?_
      refine wk ?_
      refine CX.ps (PS.slice (l := r.2.1) (h := upB r.2.1) rfl rfl rfl rfl (.inr ⟨_, rfl⟩) (.inr ⟨_, rfl⟩) hge (by omega)) ?_
      refine CX.callA (hcon) ?_ (hpre := by exact fun y hy => hpre y (rdx_rd (by first | exact pickA | exact updA) y hy))
      rintro _ _ ⟨rfl, rfl⟩
      refine wk ?_
      refine CQ.give (bsA none []) bs_nil ?_
      (apply CQ.end2; (· rfl); (· exact .tmp rfl); (· exact .tmp rfl))
      · exact ⟨none, 0, [], rfl, rfl, rfl, fun _ => ⟨rfl, rfl⟩, Nat.le_refl _⟩
      · exact selA
    rw [if_neg hz] at hpm
    rw [decide_eq_false hz] at hcon
    refine wk ?_
    refine CX.callA (hgr) ?_ (hpre := by exact rdx_rd (by first | exact pickA | exact updA))
    rintro _ _ ⟨a9, c9, rfl, rfl⟩
    refine wk ?_
    refine CX.ps (PS.quo rfl rfl rfl (by decide) hq) ?_
    refine CX.ps (PS.mul rfl rfl rfl hmu) ?_
    refine wk ?_
    refine CX.ps (PS.slice (l := r.2.1) (h := upB r.2.1) rfl rfl rfl rfl (.inr ⟨_, rfl⟩) (.inr ⟨_, rfl⟩) hge (by omega)) ?_
    refine CX.callA (hcon) ?_ (hpre := by exact fun y hy => hpre y (rdx_rd (by first | exact pickA | exact updA) y hy))
    rintro _ _ ⟨rfl, rfl⟩
    refine wk ?_
    refine CC.draw [(0, 0), (1, 0), (4, 0), (5, 0), (6, 0), (2, 3), (3, 3), (7, 0), (8, 0)] mixed rfl (by kernel_rfl) (by kernel_rfl) [] ?_
    refine hwk ?_
    refine CH.pure rfl (PS.sliceLo (l := upB r.2.1) rfl rfl rfl rfl hle hcv) ?_
    refine CH.tail rfl rfl fun K hK => ?_
    refine CX.buildSl (parts := [(0, _)]) (vs := [(0, .slice a9 r.1.length c9)]) (out := [.slice a9 r.1.length c9]) rfl rfl (by decide) (by simp [fillL, Value.cells, setL]) fun bq => ?_
    (refine CX.nil ?_; refine CQ.thenK ?_; apply hK; clear hK K)
    refine CH.tail rfl rfl fun K hK => ?_
    refine CX.append (m := 1) (news := [.slice a9 r.1.length c9]) rfl rfl rfl (by first | exact pickA | exact updA) (RdS.pick (b := bq) (o := 0) (by first | exact pickA | exact updA) rfl (one_all rfl) rfl) (by omega) (fun h => by cases h) ?_
    intro a10 c10
    refine CX.merge (valS (l ++ [⟨a9, r.1, c9⟩])) valS_snoc ?_
    (refine CX.nil ?_; refine CQ.thenK ?_; apply hK; clear hK K)
    refine hwk ?_
    refine wk ?_
    refine CQ.turn (rd (some ⟨g, if cv = upB r.2.1 then o else o + upB r.2.1 * 1, none⟩) (rem.length - upB r.2.1) (cb (rem.drop (upB r.2.1)))) (fun y s => rd_ok.2 (rdx_cut (rd_ok.1 s) rfl hle hcv)) ?_
    exact CQ.round (x := (j, some ⟨g, o, none⟩, cv, rem, a8, c8, l)) (j + 1, some ⟨g, if cv = upB r.2.1 then o else o + upB r.2.1 * 1, none⟩, cv - upB r.2.1, rem.drop (upB r.2.1), a10, c10, l ++ [⟨a9, r.1, c9⟩]) ⟨by dsimp only; omega, by simp; omega, by simp [upB] at hle ⊢; omega, by simp; omega, by dsimp only; rw [List.map_append]; exact hpm, by simp; omega⟩ (by dsimp only; omega) ⟨eqI (by simp), rfl, rfl, slE (by simp), slE (by simp), trivial⟩ (by simp only [List.length_append, List.length_drop, rows_append]; exact selA)
  obtain rfl : j = J.h.batches := by omega
  rw [Nat.sub_self, parseM] at hpm
  by_cases h3 : 0 < rem.length
  · rw [if_pos h3] at hpm
    rw [hpm]
    refine wk ?_
    refine CQ.give (bsA none []) bs_nil ?_
    (apply CQ.end2; (· rfl); (· exact .tmp rfl); (· exact .tmp rfl))
    · exact ⟨none, 0, [], rfl, rfl, rfl, fun _ => ⟨rfl, rfl⟩, Nat.le_refl _⟩
    · exact selA
  · rw [if_neg h3] at hpm
    rw [hpm]
    refine wk ?_
    refine CQ.fact (own_none (e := 45) (sz := 1) (by first | exact pickA | exact updA)) ?_
    rintro ⟨hn8, hc8, -⟩
    refine CQ.merge (bsA a8 l) own_bs ?_
    (apply CQ.end2; (· rfl); (· exact .tmp rfl); (· exact .tmp rfl))
    · exact ⟨a8, c8, l, rfl, rfl, rfl, hn8, hc8⟩
    · exact selA
end Go.Proofs.Ytlckhaodecdbbaa
/-! The journal's methods (Append, Replace, Batches, Room, Head), in the program. -/
namespace Go.Proofs.Ytlckhaodecdbbaa
open Go.Cx
attribute [local irreducible] Go.Cx.CX Go.Cx.CC Go.Cx.CQ Go.Cx.PS Go.Cx.Ctr Go.Cx.CH
set_option maxRecDepth 10000
/-- No journal, or one of no disk. -/
def njres (z : Option Nat) : List Assn := match z with | none => [] | some p => [bk p 120 [.pointer none, .int .u64 0, .int .u8 0, .int .u32 0, .int .u32 0]]
theorem jnoneN_c (z : Option Nat) : Ctr Try.prog 138 [nptr z] (njres z) (fun _ => True) (fun v M => v = .bool true ∧ M = njres z) := by
  cases z with
  | none => exact jnone0_c
  | some p => exact jnoneZ_c p _
theorem jroom_c (p d : Nat) (J : JM) (hbk : J.h.blocks < 4294967296) (D : DS) {N : Nat} (h : D.wf N) : Ctr Try.prog 73 [.pointer (some ⟨p, 0, none⟩)] [bk p 120 (jrc d J), disk d D] (fun _ => True) (fun v M => v = .int .i64 ((bankM D : Int) - (J.h.blocks : Int)) ∧ M = [bk p 120 (jrc d J), disk d D]) := by
  have hbank : bankM D ≤ 2048 := by have := h.hi; unfold bankM; omega
  refine Ctr.intro Try.func73 rfl Try.ntmps73 rfl fun x w hp => ?_
  refine wk ?_
  refine CX.callA (jnone_c p d J) ?_
  rintro _ _ ⟨rfl, rfl⟩
  refine wk ?_
  refine CC.draw [(0, 0), (2, 0), (3, 0), (4, 0), (5, 0), (6, 1), (7, 0), (1, 2), (8, 0), (9, 0)] mixed rfl (by kernel_rfl) (by kernel_rfl) [bk p 120 (jrc d J)] ?_
  refine hwk ?_
  refine CH.chain rfl fun K hK => ?_
  refine CX.callA (jbank_c p d J D h) ?_
  rintro _ _ ⟨rfl, rfl⟩
  (refine CX.nil ?_; refine CQ.thenK ?_; apply hK; (· exact selA); clear hK K)
  refine hwk ?_
  refine wk ?_
  ((apply CQ.end1; (· rfl); (· exact .tmp rfl)); (· exact ⟨rfl, rfl⟩); (· exact selA))
theorem jroomN_c (z : Option Nat) : Ctr Try.prog 73 [nptr z] (njres z) (fun _ => True) (fun v M => v = .int .i64 0 ∧ M = njres z) := by
  cases z with
  | none =>
    simp only [njres, nptr, Option.map]
    refine Ctr.intro Try.func73 rfl Try.ntmps73 rfl fun x w hp => ?_
    refine wk ?_
    refine CX.callA (jnone0_c) ?_
    rintro _ _ ⟨rfl, rfl⟩
    refine wk ?_
    ((apply CQ.end1; (· rfl); (· exact .tmp rfl)); (· exact ⟨rfl, rfl⟩); (· exact selA))
  | some p =>
    simp only [njres, nptr, Option.map]
    refine Ctr.intro Try.func73 rfl Try.ntmps73 rfl fun x w hp => ?_
    refine wk ?_
    refine CX.callA (jnoneZ_c p _) ?_
    rintro _ _ ⟨rfl, rfl⟩
    refine wk ?_
    ((apply CQ.end1; (· rfl); (· exact .tmp rfl)); (· exact ⟨rfl, rfl⟩); (· exact selA))
theorem jhead_c (p d : Nat) (J : JM) : Ctr Try.prog 80 [.pointer (some ⟨p, 0, none⟩)] [bk p 120 (jrc d J)] (fun _ => True) (fun v M => v = .agg (hc J.h).toArray ∧ M = [bk p 120 (jrc d J)]) := by
  refine Ctr.intro Try.func80 rfl Try.ntmps80 rfl fun x w hp => ?_
  refine wk ?_
  refine CX.allocZ (hc HdM.z) ?_ (hv := rfl)
  intro q
  refine wk ?_
  refine CX.callA (jnone_c p d J) ?_
  rintro _ _ ⟨rfl, rfl⟩
  refine wk ?_
  (apply CX.ps; (· apply PS.loadG (vs := hc J.h); (· rfl); (· rfl); (· exact CellsAt.pick (by first | exact pickA | exact updA) rfl); (· rfl)))
  (refine CX.storeB (vs := hc J.h) ?_ ?_ ?_ ?_; (· rfl); (· rfl); (· exact one_all rfl))
  refine wk ?_
  (apply CQ.end1; (· rfl); (· exact .cells inferInstance rfl (CellsAt.all (by first | exact pickA | exact updA)) (rfl)))
  · exact ⟨rfl, rfl⟩
  · exact selA
theorem jheadN_c (z : Option Nat) : Ctr Try.prog 80 [nptr z] (njres z) (fun _ => True) (fun v M => v = .agg (hc HdM.z).toArray ∧ M = njres z) := by
  cases z with
  | none =>
    simp only [njres, nptr, Option.map]
    refine Ctr.intro Try.func80 rfl Try.ntmps80 rfl fun x w hp => ?_
    refine wk ?_
    refine CX.allocZ (hc HdM.z) ?_ (hv := rfl)
    intro q
    refine wk ?_
    refine CX.callA (jnone0_c) ?_
    rintro _ _ ⟨rfl, rfl⟩
    refine wk ?_
    (apply CX.ps; (· apply PS.build (vs := []) (out := hc HdM.z); (· rfl); (· rfl); (· rfl)))
    (refine CX.storeB (vs := hc HdM.z) ?_ ?_ ?_ ?_; (· rfl); (· rfl); (· exact one_all rfl))
    refine wk ?_
    (apply CQ.end1; (· rfl); (· exact .cells inferInstance rfl (CellsAt.all (by first | exact pickA | exact updA)) (rfl)))
    · exact ⟨rfl, rfl⟩
    · exact selA
  | some p =>
    simp only [njres, nptr, Option.map]
    refine Ctr.intro Try.func80 rfl Try.ntmps80 rfl fun x w hp => ?_
    refine wk ?_
    refine CX.allocZ (hc HdM.z) ?_ (hv := rfl)
    intro q
    refine wk ?_
    refine CX.callA (jnoneZ_c p _) ?_
    rintro _ _ ⟨rfl, rfl⟩
    refine wk ?_
    (apply CX.ps; (· apply PS.build (vs := []) (out := hc HdM.z); (· rfl); (· rfl); (· rfl)))
    (refine CX.storeB (vs := hc HdM.z) ?_ ?_ ?_ ?_; (· rfl); (· rfl); (· exact one_all rfl))
    refine wk ?_
    (apply CQ.end1; (· rfl); (· exact .cells inferInstance rfl (CellsAt.all (by first | exact pickA | exact updA)) (rfl)))
    · exact ⟨rfl, rfl⟩
    · exact selA
theorem jbat_c (p d : Nat) (J : JM) (hb : J.h.bank < 256) (hbt : J.h.batches < 4294967296) (hbk : J.h.blocks < 4294967296) (D : DS) {N : Nat} (h : D.wf N) (hN : N < 1000000) : Ctr Try.prog 75 [.pointer (some ⟨p, 0, none⟩)] [bk p 120 (jrc d J), disk d D] (fun _ => True)
    (fun v M => ∃ a c l, l.map SlB.b = (readM J D).1 ∧ v = .slice a l.length c ∧ M = [bk p 120 (jrc d J), disk d D, bsA a l] ∧ (a = none → l.length = 0 ∧ c = 0) ∧ l.length ≤ c) := by
  refine Ctr.intro Try.func75 rfl Try.ntmps75 rfl fun x w hp => ?_
  refine wk ?_
  refine CX.callA (jnone_c p d J) ?_
  rintro _ _ ⟨rfl, rfl⟩
  refine wk ?_
  refine CX.callA (jread_c p d J hb hbt hbk D h hN) ?_
  rintro _ _ ⟨a, c, l, hl, rfl, rfl, hn, hc'⟩
  refine wk ?_
  (apply CQ.end1; (· rfl); (· exact .tmp rfl))
  · exact ⟨a, c, l, hl, rfl, rfl, hn, hc'⟩
  · exact selA
theorem jbatN_c (z : Option Nat) : Ctr Try.prog 75 [nptr z] (njres z) (fun _ => True) (fun v M => v = .slice none 0 0 ∧ M = njres z) := by
  cases z with
  | none =>
    simp only [njres, nptr, Option.map]
    refine Ctr.intro Try.func75 rfl Try.ntmps75 rfl fun x w hp => ?_
    refine wk ?_
    refine CX.callA (jnone0_c) ?_
    rintro _ _ ⟨rfl, rfl⟩
    refine wk ?_
    ((apply CQ.end1; (· rfl); (· exact .tmp rfl)); (· exact ⟨rfl, rfl⟩); (· exact selA))
  | some p =>
    simp only [njres, nptr, Option.map]
    refine Ctr.intro Try.func75 rfl Try.ntmps75 rfl fun x w hp => ?_
    refine wk ?_
    refine CX.callA (jnoneZ_c p _) ?_
    rintro _ _ ⟨rfl, rfl⟩
    refine wk ?_
    ((apply CQ.end1; (· rfl); (· exact .tmp rfl)); (· exact ⟨rfl, rfl⟩); (· exact selA))
theorem jasked_c (p d : Nat) (J : JM) (D : DS) (b : Blk) (hb : b.length ≤ 9223372036854775806) (a : Option Addr) (cap : Nat) (hn : a = none → b.length = 0 ∧ cap = 0) : Ctr Try.prog 141 [.pointer (some ⟨p, 0, none⟩), .slice a b.length cap] [bk p 120 (jrc d J), disk d D] (fun x => rdx a b.length (cb b) x)
    (fun v M => ∃ a' c', v = .tuple #[.slice a' (askedM D b).1.length c', .int .i64 (askedM D b).2] ∧ M = [bk p 120 (jrc d J), disk d D, own 29 128 a' (askedM D b).1.length c' (flat (askedM D b).1)]) := by
  refine Ctr.intro Try.func141 rfl Try.ntmps141 rfl fun x w hp => ?_
  refine wk ?_
  refine CX.callA (jnone_c p d J) ?_
  rintro _ _ ⟨rfl, rfl⟩
  by_cases h1 : 1048576 < b.length
  · rw [show askedM D b = ([], 3) by unfold askedM; rw [if_pos h1]]
    refine wk ?_
    refine CQ.ownNil 29 128 ?_
    (apply CQ.end2; (· rfl); (· exact .tmp rfl); (· exact .tmp rfl))
    · exact ⟨none, 0, rfl, rfl⟩
    · exact selA
  cases hd : D.dark with
  | true =>
    rw [show askedM D b = ([], 9) by unfold askedM; rw [if_neg h1, if_pos hd]]
    refine wk ?_
    refine CX.callA (dark_c d D) ?_
    rw [hd]
    rintro _ _ ⟨rfl, rfl⟩
    refine wk ?_
    refine CQ.ownNil 29 128 ?_
    (apply CQ.end2; (· rfl); (· exact .tmp rfl); (· exact .tmp rfl))
    · exact ⟨none, 0, rfl, rfl⟩
    · exact selA
  | false =>
    rw [show askedM D b = (cutB b, 0) by unfold askedM; rw [if_neg h1, if_neg (by simp [hd])]]
    refine wk ?_
    refine CX.callA (dark_c d D) ?_
    rw [hd]
    rintro _ _ ⟨rfl, rfl⟩
    refine wk ?_
    refine CX.callA (cut_c b (by omega) a cap hn) ?_ (hpre := by exact rdx_ex (by first | exact pickA | exact updA) hp)
    rintro _ _ ⟨a', c', rfl, rfl⟩
    refine wk ?_
    (apply CQ.end2; (· rfl); (· exact .tmp rfl); (· exact .tmp rfl))
    · exact ⟨a', c', rfl, rfl⟩
    · exact selA
theorem jaskedN_c (z : Option Nat) (a : Option Addr) (l c : Nat) : Ctr Try.prog 141 [nptr z, .slice a l c] (njres z) (fun _ => True) (fun v M => v = .tuple #[.slice none 0 0, .int .i64 1] ∧ M = njres z) := by
  cases z with
  | none =>
    simp only [njres, nptr, Option.map]
    refine Ctr.intro Try.func141 rfl Try.ntmps141 rfl fun x w hp => ?_
    refine wk ?_
    refine CX.callA (jnone0_c) ?_
    rintro _ _ ⟨rfl, rfl⟩
    refine wk ?_
    ((apply CQ.end2; (· rfl); (· exact .tmp rfl); (· exact .tmp rfl)); (· exact ⟨rfl, rfl⟩); (· exact selA))
  | some p =>
    simp only [njres, nptr, Option.map]
    refine Ctr.intro Try.func141 rfl Try.ntmps141 rfl fun x w hp => ?_
    refine wk ?_
    refine CX.callA (jnoneZ_c p _) ?_
    rintro _ _ ⟨rfl, rfl⟩
    refine wk ?_
    ((apply CQ.end2; (· rfl); (· exact .tmp rfl); (· exact .tmp rfl)); (· exact ⟨rfl, rfl⟩); (· exact selA))
theorem jappN_c (z : Option Nat) (a : Option Addr) (l c : Nat) : Ctr Try.prog 77 [nptr z, .slice a l c] (njres z) (fun _ => True) (fun v M => v = .int .i64 1 ∧ M = njres z) := by
  cases z with
  | none =>
    simp only [njres, nptr, Option.map]
    refine Ctr.intro Try.func77 rfl Try.ntmps77 rfl fun x w hp => ?_
    refine wk ?_
    (have cc := jaskedN_c none a l c; simp only [njres, nptr, Option.map] at cc; refine CX.callA cc ?_; clear cc; rintro _ _ ⟨rfl, rfl⟩)
    refine wk ?_
    ((apply CQ.end1; (· rfl); (· exact .tmp rfl)); (· exact ⟨rfl, rfl⟩); (· exact selA))
  | some p =>
    simp only [njres, nptr, Option.map]
    refine Ctr.intro Try.func77 rfl Try.ntmps77 rfl fun x w hp => ?_
    refine wk ?_
    (have cc := jaskedN_c (some p) a l c; simp only [njres, nptr, Option.map] at cc; refine CX.callA cc ?_; clear cc; rintro _ _ ⟨rfl, rfl⟩)
    refine wk ?_
    ((apply CQ.end1; (· rfl); (· exact .tmp rfl)); (· exact ⟨rfl, rfl⟩); (· exact selA))
theorem jrepN_c (z : Option Nat) (a : Option Addr) (l c : Nat) : Ctr Try.prog 76 [nptr z, .slice a l c] (njres z) (fun _ => True) (fun v M => v = .int .i64 1 ∧ M = njres z) := by
  cases z with
  | none =>
    simp only [njres, nptr, Option.map]
    refine Ctr.intro Try.func76 rfl Try.ntmps76 rfl fun x w hp => ?_
    refine wk ?_
    (have cc := jaskedN_c none a l c; simp only [njres, nptr, Option.map] at cc; refine CX.callA cc ?_; clear cc; rintro _ _ ⟨rfl, rfl⟩)
    refine wk ?_
    ((apply CQ.end1; (· rfl); (· exact .tmp rfl)); (· exact ⟨rfl, rfl⟩); (· exact selA))
  | some p =>
    simp only [njres, nptr, Option.map]
    refine Ctr.intro Try.func76 rfl Try.ntmps76 rfl fun x w hp => ?_
    refine wk ?_
    (have cc := jaskedN_c (some p) a l c; simp only [njres, nptr, Option.map] at cc; refine CX.callA cc ?_; clear cc; rintro _ _ ⟨rfl, rfl⟩)
    refine wk ?_
    ((apply CQ.end1; (· rfl); (· exact .tmp rfl)); (· exact ⟨rfl, rfl⟩); (· exact selA))
end Go.Proofs.Ytlckhaodecdbbaa
/-! The journal's methods (Append, Replace, Make, Open), in the program. -/
namespace Go.Cx
theorem lay_wf_le {N n : Nat} {D : DS} (h : D.wf (N + n + 3)) (k : n ≤ 2048) : D.wf (N + 2060) := wf_up h (by omega)
theorem newH_WBmay {A B : Blk} (hA : WB A) (hB : WB B) (h : (newH A B).2.2 = 0) : (newH A B).2.1.may := by
  rw [newH_eq] at h ⊢
  split at h
  · cases h
  · rename_i h1
    rw [if_neg h1]
    have g : ∀ (C : Blk), WB C → (getH C).2.2 = 0 → (getH C).2.1.may := fun C hC h => (put_get hC h).2.2.1
    have g0 : ∀ (C : Blk), (getH C).2.2 ≠ 0 → (getH C).1 = 0 := fun C h => by
      rcases get_err C with e | e
      · exact absurd e h
      · exact e.1
    split
    · rename_i h2
      by_cases e : (getH B).2.2 = 0
      · exact g B hB e
      · rw [g0 B e] at h2; omega
    · rename_i h2
      by_cases e : (getH A).2.2 = 0
      · exact g A hA e
      · by_cases e2 : (getH B).2.2 = 0
        · have := (put_get hB e2).1
          rw [g0 A e] at h2; omega
        · exact absurd ⟨e, e2⟩ h1
end Go.Cx
namespace Go.Proofs.Ytlckhaodecdbbaa
open Go.Cx
attribute [local irreducible] Go.Cx.CX Go.Cx.CC Go.Cx.CQ Go.Cx.PS Go.Cx.Ctr Go.Cx.CH
set_option maxRecDepth 10000
def DoneP (p d : Nat) (N : Nat) (r : Int × JM × DS) (v : Value) (M : List Assn) : Prop := v = .int .i64 r.1 ∧ M = [bk p 120 (jrc d r.2.1), disk d r.2.2] ∧ r.2.2.wf (N + 2060)
theorem japp_c (p d : Nat) (J : JM) (hJ : J.n < 4611686018427387904) (hm : J.h.may) (D : DS) {N : Nat} (h : D.wf N) (hN : N < 990000) (b : Blk) (hb : b.length ≤ 9223372036854775806) (a : Option Addr) (cap : Nat) (hn : a = none → b.length = 0 ∧ cap = 0) :
    Ctr Try.prog 77 [.pointer (some ⟨p, 0, none⟩), .slice a b.length cap] [bk p 120 (jrc d J), disk d D] (fun x => rdx a b.length (cb b) x) (DoneP p d N (appendM J D b)) := by
  unfold DoneP
  have hbank : bankM D ≤ 2048 := by have := h.hi; unfold bankM; omega
  obtain ⟨m1, m2, m3⟩ := hm
  have hmul : J.h.bank * bankM D ≤ 2 * 2048 := Nat.mul_le_mul (by omega) hbank
  have hfst : firstM D J.h.bank ≤ 4098 := by unfold firstM; omega
  refine Ctr.intro Try.func77 rfl Try.ntmps77 rfl fun x w hp => ?_
  refine wk ?_
  refine CX.callA (jasked_c p d J D b hb a cap hn) ?_ (hpre := by exact rdx_ex (by first | exact pickA | exact updA) hp)
  have hW := asked_WB D b
  have hall := asked_len D b
  unfold appendM
  generalize askedM D b = s at *
  rintro _ _ ⟨a', c', rfl, rfl⟩
  by_cases he : s.2 = 0
  rotate_left
  · rw [if_pos he]
    refine wk ?_
    (apply CQ.end1; (· rfl); (· exact .tmp rfl))
    · exact ⟨rfl, rfl, wf_up h (by omega)⟩
    · exact selA
  rw [if_neg (by simp [he]), he]
  refine wk ?_
  refine CX.callA (jroom_c p d J (by omega) D h) ?_
  rintro _ _ ⟨rfl, rfl⟩
  by_cases h1 : (bankM D : Int) - (J.h.blocks : Int) < (s.1.length : Int)
  · rw [if_pos h1]
    refine wk ?_
    (apply CQ.end1; (· rfl); (· exact .tmp rfl))
    · exact ⟨rfl, rfl, wf_up h (by omega)⟩
    · exact selA
  rw [if_neg h1]
  refine wk ?_
  (apply CX.ps; (· apply PS.loadG (vs := hc J.h); (· rfl); (· rfl); (· exact CellsAt.pick (by first | exact pickA | exact updA) rfl); (· rfl)))
  refine CX.allocZ (hc HdM.z) ?_ (hv := rfl)
  intro q7
  (refine CX.storeB (vs := hc J.h) ?_ ?_ ?_ ?_; (· rfl); (· rfl); (· exact one_all rfl))
  refine wk ?_
  refine CC.draw [(0, 0), (1, 0), (2, 1), (4, 0), (5, 1), (6, 0), (3, 2), (7, 0), (8, 0)] mixed rfl (by kernel_rfl) (by kernel_rfl) [bk q7 68 (hc J.h)] ?_
  refine hwk ?_
  refine CH.chain rfl fun K hK => ?_
  refine CX.callA (jfirst_c p d J D J.h.bank (by omega) h) ?_
  rintro _ _ ⟨rfl, rfl⟩
  (refine CX.nil ?_; refine CQ.thenK ?_; apply hK; (· exact selA); clear hK K)
  refine hwk ?_
  refine wk ?_
  (apply CX.ps; (· apply PS.loadG (vs := hc ⟨J.h.bank, J.h.blocks + s.1.length, J.h.batches + 1⟩); (· rfl); (· rfl); (· exact CellsAt.all (by first | exact pickA | exact updA)); (· rfl)))
  have hlay := jlay_c p d J hJ (firstM D J.h.bank + J.h.blocks) (by omega) s.1 hW (by omega) a' c' ⟨J.h.bank, J.h.blocks + s.1.length, J.h.batches + 1⟩ ⟨by dsimp only; omega, by dsimp only; omega, by dsimp only; omega⟩ D h (by omega)
  refine CX.callA (hlay) ?_ (hpre := by exact rdx_RdS (RdS.own (by first | exact pickA | exact updA) (one_flat _) (by omega)))
  rintro _ _ ⟨rfl, rfl, hwf⟩
  refine wk ?_
  (apply CQ.end1; (· rfl); (· exact .tmp rfl))
  · exact ⟨rfl, rfl, lay_wf_le hwf (by omega)⟩
  · exact selA
theorem jrep_c (p d : Nat) (J : JM) (hJ : J.n < 4611686018427387904) (hm : J.h.may) (D : DS) {N : Nat} (h : D.wf N) (hN : N < 990000) (b : Blk) (hb : b.length ≤ 9223372036854775806) (a : Option Addr) (cap : Nat) (hn : a = none → b.length = 0 ∧ cap = 0) :
    Ctr Try.prog 76 [.pointer (some ⟨p, 0, none⟩), .slice a b.length cap] [bk p 120 (jrc d J), disk d D] (fun x => rdx a b.length (cb b) x) (DoneP p d N (replaceM J D b)) := by
  unfold DoneP
  have hbank : bankM D ≤ 2048 := by have := h.hi; unfold bankM; omega
  obtain ⟨m1, m2, m3⟩ := hm
  have hmul : (1 - J.h.bank) * bankM D ≤ 2 * 2048 := Nat.mul_le_mul (by omega) hbank
  have hfst : firstM D (1 - J.h.bank) ≤ 4098 := by unfold firstM; omega
  refine Ctr.intro Try.func76 rfl Try.ntmps76 rfl fun x w hp => ?_
  refine wk ?_
  refine CX.callA (jasked_c p d J D b hb a cap hn) ?_ (hpre := by exact rdx_ex (by first | exact pickA | exact updA) hp)
  have hW := asked_WB D b
  have hall := asked_len D b
  unfold replaceM
  generalize askedM D b = s at *
  rintro _ _ ⟨a', c', rfl, rfl⟩
  by_cases he : s.2 = 0
  rotate_left
  · rw [if_pos he]
    refine wk ?_
    (apply CQ.end1; (· rfl); (· exact .tmp rfl))
    · exact ⟨rfl, rfl, wf_up h (by omega)⟩
    · exact selA
  rw [if_neg (by simp [he]), he]
  refine wk ?_
  refine CX.callA (jbank_c p d J D h) ?_
  rintro _ _ ⟨rfl, rfl⟩
  by_cases h1 : bankM D < s.1.length
  · rw [if_pos h1]
    refine wk ?_
    (apply CQ.end1; (· rfl); (· exact .tmp rfl))
    · exact ⟨rfl, rfl, wf_up h (by omega)⟩
    · exact selA
  rw [if_neg h1]
  refine wk ?_
  rw [show (1 : Int) - (J.h.bank : Int) = ((1 - J.h.bank : Nat) : Int) by omega]
  refine wk ?_
  refine CX.callA (jfirst_c p d J D (1 - J.h.bank) (by omega) h) ?_
  rintro _ _ ⟨rfl, rfl⟩
  refine wk ?_
  refine CX.ps (PS.build (vs := [(0, .int .u8 ((1 - J.h.bank : Nat) : Int)), (1, .int .u32 (s.1.length : Int)), (2, .int .u32 1)]) (out := hc ⟨1 - J.h.bank, s.1.length, 1⟩) rfl rfl rfl) ?_
  have hlay := jlay_c p d J hJ (firstM D (1 - J.h.bank)) (by omega) s.1 hW (by omega) a' c' ⟨1 - J.h.bank, s.1.length, 1⟩ ⟨by dsimp only; omega, by dsimp only; omega, by dsimp only; omega⟩ D h (by omega)
  refine CX.callA (hlay) ?_ (hpre := by exact rdx_RdS (RdS.own (by first | exact pickA | exact updA) (one_flat _) (by omega)))
  rintro _ _ ⟨rfl, rfl, hwf⟩
  refine wk ?_
  (apply CQ.end1; (· rfl); (· exact .tmp rfl))
  · exact ⟨rfl, rfl, lay_wf_le hwf (by omega)⟩
  · exact selA
def MadeP (d N : Nat) (D : DS) (v : Value) (M : List Assn) : Prop :=
  (D.dark = true → v = .tuple #[.pointer none, .int .i64 9] ∧ M = [disk d D]) ∧
  (D.dark = false → (makeM D).2.2.wf (N + 2060) ∧ ((makeM D).1 ≠ 0 → v = .tuple #[.pointer none, .int .i64 (makeM D).1] ∧ M = [disk d (makeM D).2.2]) ∧
    ((makeM D).1 = 0 → ∃ p, v = .tuple #[.pointer (some ⟨p, 0, none⟩), .int .i64 0] ∧ M = [bk p 120 (jrc d (makeM D).2.1), disk d (makeM D).2.2]))
theorem jmake_c (d : Nat) (D : DS) {N : Nat} (h : D.wf N) (hN : N < 990000) : Ctr Try.prog 72 [.pointer (some ⟨d, 0, none⟩)] [disk d D] (fun _ => True) (MadeP d N D) := by
  have hlo := h.lo
  unfold MadeP
  refine Ctr.intro Try.func72 rfl Try.ntmps72 rfl fun x w hp => ?_
  refine wk ?_
  refine CX.callA (blocks_c d D) ?_
  rintro _ _ ⟨rfl, rfl⟩
  refine wk ?_
  refine CX.callA (dark_c d D) ?_
  cases hd : D.dark with
  | true =>
    rintro _ _ ⟨rfl, rfl⟩
    refine wk ?_
    (apply CQ.end2; (· rfl); (· exact .tmp rfl); (· exact .tmp rfl))
    · exact ⟨fun _ => ⟨rfl, rfl⟩, (fun h => by cases h)⟩
    · exact selA
  | false =>
    rintro _ _ ⟨rfl, rfl⟩
    refine wk ?_
    refine CX.ps (PS.build (vs := [(0, .pointer (some ⟨d, 0, none⟩))]) (out := jrc d ⟨0, HdM.z⟩) rfl rfl rfl) ?_
    (refine CX.boxA (vs := jrc d ⟨0, HdM.z⟩) ?_; intro p)
    refine wk ?_
    refine CX.makeSl (l := 2) rfl rfl rfl rfl (by decide) fun q => ?_
    have e0 : (madeCells (Value.agg (List.replicate 128 (.int .u8 0) : List Value).toArray).cells (2 * 128)).toList = flat [zblk, zblk] := by
      have h1 := made_rep (.int .u8 0) 128 (2 * 128) (by omega)
      have h2 := flat_zs 2
      simp only [Value.cells]
      rw [h1, ← h2]; rfl
    rw [e0]
    (apply CX.ps; (· apply PS.build (vs := []) (out := hc HdM.z); (· rfl); (· rfl); (· rfl)))
    have hlay := jlay_c p d ⟨0, HdM.z⟩ (by decide) 0 (by decide) [zblk, zblk] (fun b hb => by simp at hb; subst hb; exact WB_z) (by decide) (some ⟨q, 0, none⟩) 2 HdM.z ⟨by decide, by decide, by decide⟩ D h (by show N + 2 + 3 < 999990; omega)
    refine CX.callA (hlay) ?_ (hpre := by exact rdx_RdS (RdS.own (by first | exact pickA | exact updA) (one_flat _) (by decide)))
    rintro _ _ ⟨rfl, rfl, hwf⟩
    have hm : makeM D = layM ⟨0, HdM.z⟩ 0 [zblk, zblk] HdM.z D := rfl
    rw [hm]
    generalize layM ⟨0, HdM.z⟩ 0 [zblk, zblk] HdM.z D = r at *
    by_cases he : r.1 = 0
    · rw [he]
      refine wk ?_
      (apply CQ.end2; (· rfl); (· exact .tmp rfl); (· exact .tmp rfl))
      · exact ⟨(fun h => by cases h), fun _ => ⟨lay_wf_le hwf (by decide), fun h => absurd rfl h, fun _ => ⟨p, rfl, rfl⟩⟩⟩
      · exact selA
    · refine wk ?_
      (apply CQ.end2; (· rfl); (· exact .tmp rfl); (· exact .tmp rfl))
      · exact ⟨(fun h => by cases h), fun _ => ⟨lay_wf_le hwf (by decide), fun _ => ⟨rfl, rfl⟩, fun h => absurd h he⟩⟩
      · exact selA
theorem jmakeN_c (z : Option Nat) : Ctr Try.prog 72 [nptr z] (nres z) (fun _ => True) (fun v M => v = .tuple #[.pointer none, .int .i64 1] ∧ M = nres z) := by
  cases z with
  | none =>
    simp only [nres, nptr, Option.map]
    refine Ctr.intro Try.func72 rfl Try.ntmps72 rfl fun x w hp => ?_
    refine wk ?_
    (have cc := blocksN_c none; simp only [nres, nptr, Option.map] at cc; refine CX.callA cc ?_; clear cc; rintro _ _ ⟨rfl, rfl⟩)
    refine wk ?_
    ((apply CQ.end2; (· rfl); (· exact .tmp rfl); (· exact .tmp rfl)); (· exact ⟨rfl, rfl⟩); (· exact selA))
  | some p =>
    simp only [nres, nptr, Option.map]
    refine Ctr.intro Try.func72 rfl Try.ntmps72 rfl fun x w hp => ?_
    refine wk ?_
    (have cc := blocksN_c (some p); simp only [nres, nptr, Option.map] at cc; refine CX.callA cc ?_; clear cc; rintro _ _ ⟨rfl, rfl⟩)
    refine wk ?_
    ((apply CQ.end2; (· rfl); (· exact .tmp rfl); (· exact .tmp rfl)); (· exact ⟨rfl, rfl⟩); (· exact selA))
theorem jopenN_c (z : Option Nat) : Ctr Try.prog 79 [nptr z] (nres z) (fun _ => True) (fun v M => v = .tuple #[.pointer none, .int .i64 1] ∧ M = nres z) := by
  cases z with
  | none =>
    simp only [nres, nptr, Option.map]
    refine Ctr.intro Try.func79 rfl Try.ntmps79 rfl fun x w hp => ?_
    refine wk ?_
    (have cc := blocksN_c none; simp only [nres, nptr, Option.map] at cc; refine CX.callA cc ?_; clear cc; rintro _ _ ⟨rfl, rfl⟩)
    refine wk ?_
    ((apply CQ.end2; (· rfl); (· exact .tmp rfl); (· exact .tmp rfl)); (· exact ⟨rfl, rfl⟩); (· exact selA))
  | some p =>
    simp only [nres, nptr, Option.map]
    refine Ctr.intro Try.func79 rfl Try.ntmps79 rfl fun x w hp => ?_
    refine wk ?_
    (have cc := blocksN_c (some p); simp only [nres, nptr, Option.map] at cc; refine CX.callA cc ?_; clear cc; rintro _ _ ⟨rfl, rfl⟩)
    refine wk ?_
    ((apply CQ.end2; (· rfl); (· exact .tmp rfl); (· exact .tmp rfl)); (· exact ⟨rfl, rfl⟩); (· exact selA))
def OpenP (d : Nat) (D : DS) (v : Value) (M : List Assn) : Prop :=
  ((openM D).1 ≠ 0 → v = .tuple #[.pointer none, .int .i64 (openM D).1] ∧ M = [disk d D]) ∧
  ((openM D).1 = 0 → ∃ p, v = .tuple #[.pointer (some ⟨p, 0, none⟩), .int .i64 0] ∧ M = [bk p 120 (jrc d (openM D).2), disk d D])
theorem jopen_c (d : Nat) (D : DS) {N : Nat} (h : D.wf N) (hN : N < 990000) : Ctr Try.prog 79 [.pointer (some ⟨d, 0, none⟩)] [disk d D] (fun _ => True) (OpenP d D) := by
  have hlo := h.lo
  have hw1 : WB (bothM D).1 := by unfold bothM; split <;> exact read_WB h 0
  have hw2 : WB (bothM D).2.1 := by
    unfold bothM; split
    · exact WB_z
    · exact read_WB h 1
  unfold OpenP
  refine Ctr.intro Try.func79 rfl Try.ntmps79 rfl fun x w hp => ?_
  refine wk ?_
  refine CX.callA (blocks_c d D) ?_
  rintro _ _ ⟨rfl, rfl⟩
  refine wk ?_
  refine CX.ps (PS.build (vs := [(0, .pointer (some ⟨d, 0, none⟩))]) (out := jrc d ⟨0, HdM.z⟩) rfl rfl rfl) ?_
  (refine CX.boxA (vs := jrc d ⟨0, HdM.z⟩) ?_; intro p)
  refine wk ?_
  refine CX.callA (jboth_c p d ⟨0, HdM.z⟩ D h (by omega)) ?_
  unfold openM
  generalize bothM D = o at *
  rintro _ _ ⟨rfl, rfl⟩
  refine wk ?_
  refine CX.allocZ (cb zblk) ?_
  intro q5
  refine CX.allocZ (cb zblk) ?_
  intro q6
  (apply CX.storeAll; (· rfl); (· rfl); (· rfl); (· first | exact pickA | exact updA); (· exact hw1.len); (· exact WB_z.len); (· exact one_cb _))
  (apply CX.storeAll; (· rfl); (· rfl); (· rfl); (· first | exact pickA | exact updA); (· exact hw2.len); (· exact WB_z.len); (· exact one_cb _))
  by_cases he : o.2.2 = 0
  rotate_left
  · rw [if_pos he]
    refine wk ?_
    (apply CQ.end2; (· rfl); (· exact .tmp rfl); (· exact .tmp rfl))
    · exact ⟨fun _ => ⟨rfl, rfl⟩, fun h => absurd h he⟩
    · exact selA
  rw [if_neg (by simp [he]), he]
  refine wk ?_
  (apply CX.ps; (· apply PS.loadG (vs := cb o.1); (· rfl); (· rfl); (· exact CellsAt.all (by first | exact pickA | exact updA)); (· exact hw1.len)))
  (apply CX.ps; (· apply PS.loadG (vs := cb o.2.1); (· rfl); (· rfl); (· exact CellsAt.all (by first | exact pickA | exact updA)); (· exact hw2.len)))
  refine CX.callA (hnewest_c o.1 o.2.1 hw1 hw2) ?_
  have hmay := newH_WBmay hw1 hw2
  generalize newH o.1 o.2.1 = u at *
  rintro _ _ ⟨rfl, rfl⟩
  refine wk ?_
  have e5 : setL ((jrc d ⟨0, HdM.z⟩).set (0 + 1) (.int .u64 (u.1 : Int))) (0 + 2) (Value.agg (hc u.2.1).toArray).cells.toList = jrc d ⟨u.1, u.2.1⟩ := by
    simp [jrc, setL, hc, Value.cells]
  refine CX.storeC (v := .agg (hc u.2.1).toArray) (cs := (jrc d ⟨0, HdM.z⟩).set (0 + 1) (.int .u64 (u.1 : Int))) (bt := 120) rfl rfl rfl rfl (one_all rfl) (by first | exact pickA | exact updA) (by simp [jrc, hc, Value.cells]) ?_
  rw [e5]
  by_cases h1 : u.2.2 = 0
  rotate_left
  · rw [if_pos (.inl h1)]
    refine wk ?_
    (apply CQ.end2; (· rfl); (· exact .tmp rfl); (· exact .tmp rfl))
    · exact ⟨fun _ => ⟨rfl, rfl⟩, (fun h => by cases h)⟩
    · exact selA
  by_cases h2 : 2305843009213693952 < u.1
  · rw [if_pos (.inr h2), h1]
    refine wk ?_
    dsimp only
    refine wk ?_
    (apply CQ.end2; (· rfl); (· exact .tmp rfl); (· exact .tmp rfl))
    · exact ⟨fun _ => ⟨rfl, rfl⟩, (fun h => by cases h)⟩
    · exact selA
  rw [if_neg (by rintro (h | h) <;> contradiction), h1]
  obtain ⟨m1, m2, m3⟩ := hmay h1
  have hrd := jread_c p d ⟨u.1, u.2.1⟩ (by dsimp only; omega) (by dsimp only; omega) (by dsimp only; omega) D h (by omega)
  refine wk ?_
  dsimp only
  refine wk ?_
  refine CX.callA (hrd) ?_
  unfold ReadP
  generalize readM ⟨u.1, u.2.1⟩ D = r at *
  rintro _ _ ⟨a8, c8, l8, hl8, rfl, rfl, hn8, hc8⟩
  by_cases h3 : r.2 = 0
  · rw [h3]
    refine wk ?_
    (apply CQ.end2; (· rfl); (· exact .tmp rfl); (· exact .tmp rfl))
    · exact ⟨fun h => absurd rfl h, fun _ => ⟨p, rfl, rfl⟩⟩
    · exact selA
  · refine wk ?_
    (apply CQ.end2; (· rfl); (· exact .tmp rfl); (· exact .tmp rfl))
    · exact ⟨fun _ => ⟨rfl, rfl⟩, fun h => absurd h h3⟩
    · exact selA
end Go.Proofs.Ytlckhaodecdbbaa
/-! What the journal's statements lean on (ref 00 Copy, ref 01 Row, ref 07 Same), in the program. -/
namespace Go.Cx
theorem sl_len (l : List SlB) : ∀ y ∈ l, (SlB.cells y).length = 1 := fun _ _ => rfl
theorem bsAt_some {a : Option Addr} {l : List SlB} {x : PH} (h : bsAt a l x) (h0 : 0 < l.length) : ∃ g off, a = some ⟨g, off, none⟩ := rdx_some h.1 (by omega)
theorem bsAt.cell {L L' : List Assn} {x : PH} {g off i : Nat} {l : List SlB} (h : bsAt (some ⟨g, off, none⟩) l x) (p : Pick (exact x) L L') (hi : i < l.length) : CellAt L g (off + i * 1) (.slice (l[i]).a (l[i]).b.length (l[i]).c) :=
  fun y hy => by
    obtain ⟨cs, t, fr, e, hc⟩ := CellsAt.row p h.1 (by omega) (sl_len l) hi y hy
    exact ⟨cs, t, fr, e, by simpa using hc 0 _ rfl⟩
theorem bsA_cell {L L' : List Assn} {g off i : Nat} {l : List SlB} (p : Pick (bsA (some ⟨g, off, none⟩) l) L L') (hi : i < l.length) : CellAt L g (off + i * 1) (.slice (l[i]).a (l[i]).b.length (l[i]).c) :=
  fun y hy => (bsA_ok.1 (p.ok hy)).cell (x := y) (.head []) hi y ⟨fun _ => true, fun b o e => by simpa [PH.only] using e, trivial⟩
theorem bs_bsA {L L' : List Assn} {a : Option Addr} {l : List SlB} (p : Pick (bsA a l) L L') : ∀ y, Sep L y → bsAt a l y := fun y hy => bsA_ok.1 (p.ok hy)
theorem bs_ex {L L' : List Assn} {x : PH} (p : Pick (exact x) L L') {a : Option Addr} {l : List SlB} (h : bsAt a l x) : ∀ y, Sep L y → bsAt a l y := fun y hy => bsAt_mono h (p.ok hy)
end Go.Cx
namespace Go.Proofs.Ytlckhaodecdbbaa
open Go.Cx
attribute [local irreducible] Go.Cx.CX Go.Cx.CC Go.Cx.CQ Go.Cx.PS Go.Cx.Ctr Go.Cx.CH
set_option maxRecDepth 10000
theorem r1row_c (B : Blk) (hB : B.length ≤ 1073741824) (a : Option Addr) (cap : Nat) (hn : a = none → B.length = 0 ∧ cap = 0) : Ctr Try.prog 74 [.slice a B.length cap] [] (fun x => rdx a B.length (cb B) x)
    (fun v M => ∃ b c, v = .slice (some ⟨b, 0, none⟩) (4 + B.length) c ∧ M = [own 5 1 (some ⟨b, 0, none⟩) (4 + B.length) c (cb (rowB B))]) := by
  refine Ctr.intro Try.func74 rfl Try.ntmps74 rfl fun x w hp => ?_
  refine wk ?_
  refine CX.callA (rput_c B.length 4 (by omega) (by omega)) ?_
  rintro _ _ ⟨b, c, rfl, rfl⟩
  refine wk ?_
  refine CX.append (m := B.length) (news := cb B) rfl rfl rfl (by first | exact pickA | exact updA) (rdS_of (rdx_ex (by first | exact pickA | exact updA) hp) rfl) (by omega) hn ?_
  intro a' c'
  have e : cb (le 4 B.length) ++ cb B = cb (rowB B) := by simp [rowB, cb_append]
  rw [e]
  refine CX.fact (own_fact (e := 5) (by first | exact pickA | exact updA) (by omega)) ?_
  rintro ⟨hc1, q, rfl⟩
  refine wk ?_
  (apply CQ.end1; (· rfl); (· exact .tmp rfl))
  · exact ⟨q, c', rfl, rfl⟩
  · exact selA
theorem r0copy_c (B : Blk) (hB : B.length ≤ 1073741824) (a : Option Addr) (cap : Nat) (hn : a = none → B.length = 0 ∧ cap = 0) : Ctr Try.prog 81 [.slice a B.length cap] [] (fun x => rdx a B.length (cb B) x)
    (fun v M => ∃ b c, v = .slice b B.length c ∧ M = [own 5 1 b B.length c (cb B)]) := by
  refine Ctr.intro Try.func81 rfl Try.ntmps81 rfl fun x w hp => ?_
  refine CC.ownNil 5 1 ?_
  refine wk ?_
  refine CX.append (m := B.length) (news := cb B) rfl rfl rfl (by first | exact pickA | exact updA) (rdS_of (rdx_ex (by first | exact pickA | exact updA) hp) rfl) (by omega) hn ?_
  intro a' c'
  rw [Nat.zero_add, List.nil_append]
  refine wk ?_
  (apply CQ.end1; (· rfl); (· exact .tmp rfl))
  · exact ⟨a', c', rfl, rfl⟩
  · exact selA
theorem r7same_c (l k : List SlB) (hl : l.length ≤ 9223372036854775806) (hkl : k.length ≤ 9223372036854775806) (a b : Option Addr) (ca cb' : Nat) : Ctr Try.prog 82 [.slice a l.length ca, .slice b k.length cb'] [] (fun x => bsAt a l x ∧ bsAt b k x)
    (fun v M => v = .bool (decide (l.map SlB.b = k.map SlB.b)) ∧ M = []) := by
  refine Ctr.intro Try.func82 rfl Try.ntmps82 rfl fun x w hp => ?_
  by_cases hn : l.length = k.length
  rotate_left
  · have hne : l.map SlB.b ≠ k.map SlB.b := fun e => hn (by have := congrArg List.length e; simpa using this)
    refine wk ?_
    ((apply CQ.end1; (· rfl); (· exact .tmp rfl)); (· exact ⟨by rw [decide_eq_false hne], rfl⟩); (· exact selA))
  refine wk ?_
  refine CC.loop (X := Nat) (fun i => [(5, .int .i64 (i : Int)), (0, .slice a l.length ca), (1, .slice b k.length cb')]) (fun i => [exact x]) (fun i => i ≤ l.length ∧ ∀ j (h : j < l.length) (h' : j < k.length), j < i → (l[j]).b = (k[j]).b) (fun i => l.length - i) 0 ⟨Nat.zero_le _, fun j h h' h0 => by omega⟩ ⟨rfl, rfl, rfl, trivial⟩ (by exact selA) ?_
  rintro i ⟨hi, hpre⟩
  by_cases h1 : i < l.length
  · have h2 : i < k.length := by omega
    obtain ⟨g, off, rfl⟩ := bsAt_some hp.1 (by omega)
    obtain ⟨g', off', rfl⟩ := bsAt_some hp.2 (by omega)
    have hr := hp.1.2 l[i] (List.getElem_mem h1)
    have hr' := hp.2.2 k[i] (List.getElem_mem h2)
    refine wk ?_
    refine CC.draw [(0, 0), (1, 0), (2, 0), (3, 1), (4, 0), (5, 0), (6, 0), (7, 1), (8, 3), (9, 0)] mixed rfl (by kernel_rfl) (by kernel_rfl) [exact x] ?_
    refine hwk ?_
    refine CH.pure rfl (PS.indexAddr (j := i) rfl rfl rfl rfl (by omega)) ?_
    (apply CH.read; (· rfl); (· apply PS.load (v := .slice (l[i]).a (l[i]).b.length (l[i]).c); (· rfl); (· rfl); (· exact hp.1.cell (by first | exact pickA | exact updA) h1)); (· exact selA))
    refine hwk ?_
    refine CH.pure rfl (PS.indexAddr (j := i) rfl rfl rfl rfl (by omega)) ?_
    (apply CH.read; (· rfl); (· apply PS.load (v := .slice (k[i]).a (k[i]).b.length (k[i]).c); (· rfl); (· rfl); (· exact hp.2.cell (by first | exact pickA | exact updA) h2)); (· exact selA))
    refine CH.tail rfl rfl fun K hK => ?_
    refine CX.callA (same_c (l[i]).b (k[i]).b (l[i]).a (k[i]).a (l[i]).c (k[i]).c) ?_ (hpre := by exact fun y hy => ⟨rdx_ex (show Pick (exact x) _ _ from by first | exact pickA | exact updA) hr.r y hy, rdx_ex (show Pick (exact x) _ _ from by first | exact pickA | exact updA) hr'.r y hy⟩)
    by_cases hb : (l[i]).b = (k[i]).b
    · rw [decide_eq_true hb]
      rintro _ _ ⟨rfl, rfl⟩
      (refine CX.nil ?_; refine CQ.thenK ?_; apply hK; clear hK K)
      refine hwk ?_
      refine wk ?_
      exact CQ.round (i + 1) ⟨by omega, fun j h h' hj => by
        by_cases e : j < i
        · exact hpre j h h' e
        · obtain rfl : j = i := by omega
          exact hb⟩ (by omega) ⟨eqI (by omega), rfl, rfl, trivial⟩ (by exact selA)
    · have hne : l.map SlB.b ≠ k.map SlB.b := fun e => hb (by
        have := congrArg (fun z => z[i]?) e
        simpa [h1, h2] using this)
      rw [decide_eq_false hb]
      rintro _ _ ⟨rfl, rfl⟩
      (refine CX.nil ?_; refine CQ.thenK ?_; apply hK; clear hK K)
      refine hwk ?_
      refine wk ?_
      ((apply CQ.end1; (· rfl); (· exact .tmp rfl)); (· exact ⟨by rw [decide_eq_false hne], rfl⟩); (· exact selA))
  · obtain rfl : i = l.length := by omega
    have heq : l.map SlB.b = k.map SlB.b := by
      apply List.ext_getElem
      · simp [hn]
      · intro j h h'
        simp only [List.getElem_map]
        simp only [List.length_map] at h h'
        exact hpre j h h' h
    refine wk ?_
    ((apply CQ.end1; (· rfl); (· exact .tmp rfl)); (· exact ⟨by rw [decide_eq_true heq], rfl⟩); (· exact selA))
end Go.Proofs.Ytlckhaodecdbbaa
/-! The journal in plain Lean: what is laid is read. No program in sight. -/
namespace Go.Cx
/-! ### Cut, and read again -/
theorem chop_nil : chopB [] = [] := rfl
theorem chop_cons {R : Blk} (h : 0 < R.length) : chopB R = padB 128 (R.take 128) :: chopB (R.drop 128) := by
  unfold chopB
  rw [show (R.length + 127) / 128 = ((R.drop 128).length + 127) / 128 + 1 by simp; omega, List.range_succ_eq_map, List.map_cons, List.map_map]
  simp only [Nat.zero_mul, List.drop_zero]
  congr 1
  apply List.map_congr_left
  intro i _
  simp only [Function.comp]
  rw [List.drop_drop, show 128 + i * 128 = (i + 1) * 128 by omega]
theorem chop_flat : ∀ (m : Nat) (R : Blk), R.length ≤ m → (chopB R).flatten = R ++ List.replicate (upB R.length - R.length) 0
  | 0, R, h => by
    obtain rfl : R = [] := List.length_eq_zero_iff.1 (by omega)
    simp [chop_nil, upB]
  | m + 1, R, h => by
    by_cases h0 : 0 < R.length
    · rw [chop_cons h0, List.flatten_cons, chop_flat m _ (by simp; omega)]
      by_cases h1 : R.length ≤ 128
      · have e1 : R.drop 128 = [] := List.drop_of_length_le h1
        have e2 : R.take 128 = R := List.take_of_length_le h1
        rw [e1, e2]
        simp only [padB, List.nil_append, List.length_nil, upB]
        rw [show (R.length + 127) / 128 * 128 - R.length = 128 - R.length by omega]
        simp
      · have e2 : padB 128 (R.take 128) = R.take 128 := by
          have : (R.take 128).length = 128 := by simp; omega
          unfold padB; rw [this]; simp
        rw [e2, ← List.append_assoc, List.take_append_drop]
        congr 2
        simp only [List.length_drop, upB]; omega
    · obtain rfl : R = [] := List.length_eq_zero_iff.1 (by omega)
      simp [chop_nil, upB]
theorem cut_flat (b : Blk) : (cutB b).flatten = rowB b ++ List.replicate (upB (4 + b.length) - (4 + b.length)) 0 := by
  have := chop_flat _ (rowB b) (Nat.le_refl _)
  rw [rowB_length] at this; exact this
def Cut (bs : List Blk) : List Blk := (bs.map cutB).flatten
theorem Cut_snoc (bs : List Blk) (b : Blk) : Cut (bs ++ [b]) = Cut bs ++ cutB b := by simp [Cut]
theorem Cut_one (b : Blk) : Cut [b] = cutB b := by simp [Cut]
theorem Cut_cons (b : Blk) (bs : List Blk) : Cut (b :: bs) = cutB b ++ Cut bs := by simp [Cut]
theorem cut_pos (b : Blk) : 1 ≤ (cutB b).length := by rw [cut_len]; omega
theorem Cut_len_ge (bs : List Blk) : bs.length ≤ (Cut bs).length := by
  induction bs with
  | nil => simp
  | cons b bs ih => rw [Cut_cons, List.length_append, List.length_cons]; have := cut_pos b; omega
theorem Cut_WB (bs : List Blk) : ∀ x ∈ Cut bs, WB x := fun x hx => by
  simp only [Cut, List.mem_flatten, List.mem_map] at hx
  obtain ⟨_, ⟨b, _, rfl⟩, hx⟩ := hx
  exact chop_WB _ x hx
theorem upB_ge' (n : Nat) : n ≤ upB n := by unfold upB; omega
theorem parse_print : ∀ (bs l : List Blk), (∀ b ∈ bs, b.length ≤ 1048576) → parseM bs.length l (Cut bs).flatten = (l ++ bs, 0)
  | [], l, _ => by simp [parseM, Cut]
  | b :: bs, l, h => by
    have hb := h b (by simp)
    have e : (Cut (b :: bs)).flatten = rowB b ++ (List.replicate (upB (4 + b.length) - (4 + b.length)) 0 ++ (Cut bs).flatten) := by
      rw [Cut_cons, List.flatten_append, cut_flat, List.append_assoc]
    have hr : Cx.rowAt (Cut (b :: bs)).flatten 0 1048576 = (b, 0 + 4 + b.length, 0) := rowAt_print (by omega) (by rw [List.drop_zero]; exact e) hb (by omega)
    have hg := upB_ge' (4 + b.length)
    have e1 : (Cut (b :: bs)).flatten.drop (4 + b.length) = List.replicate (upB (4 + b.length) - (4 + b.length)) 0 ++ (Cut bs).flatten := by
      rw [e, List.drop_append, List.drop_of_length_le (by rw [rowB_length]; omega), rowB_length]; simp
    have e2 : (Cut (b :: bs)).flatten.drop (upB (4 + b.length)) = (Cut bs).flatten := by
      rw [show upB (4 + b.length) = (4 + b.length) + (upB (4 + b.length) - (4 + b.length)) by omega, ← List.drop_drop, e1, List.drop_append]
      simp
    rw [List.length_cons, parseM, hr]
    simp only [ne_eq, not_true_eq_false, if_false, Nat.zero_add]
    rw [e1, if_neg, e2, parse_print bs _ (fun x hx => h x (by simp [hx]))]
    · simp
    · rintro ⟨c, hc, hn⟩
      rw [List.take_append_of_le_length (by simp)] at hc
      exact hn (List.eq_of_mem_replicate (List.mem_of_mem_take hc))
theorem rdAll_eq {D : DS} {f : Nat} : ∀ (n i : Nat) (acc : Blk) (g : Nat → Blk), (∀ k, i ≤ k → k < i + n → D.read ((f : Int) + (k : Int)) = (g k, 0)) → rdAll D f i n acc = (acc ++ ((List.range' i n).map g).flatten, 0)
  | 0, i, acc, g, _ => by simp [rdAll]
  | n + 1, i, acc, g, h => by
    have h0 := h i (Nat.le_refl _) (by omega)
    rw [rdAll, h0]
    simp only [ne_eq, not_true_eq_false, if_false]
    rw [rdAll_eq n (i + 1) _ g (fun k h1 h2 => h k (by omega) (by omega)), List.range'_succ]
    simp
/-! ### Slots -/
/-- A block that counts less than any sealed one of number m. -/
structure Slot (m : Nat) (X : Blk) : Prop where
  wb : WB X
  beg : ∃ b, b ≤ 60 ∧ X.take 8 = le 8 b
  fin : ∀ j, m ≤ j → j ≤ 60 → X.drop 120 ≠ le 8 (top - j)
theorem Slot.up {m k : Nat} {X : Blk} (h : Slot m X) (hk : m ≤ k) : Slot k X := ⟨h.wb, h.beg, fun j h1 h2 => h.fin j (by omega) h2⟩
theorem le8_inj {a b : Nat} (ha : a ≤ top) (hb : b ≤ top) (e : le 8 a = le 8 b) : a = b := by
  have := congrArg ofLe e
  rwa [ofLe8 ha, ofLe8 hb] at this
theorem Slot.valid {m : Nat} {X : Blk} (h : Slot m X) (v : Valid X) : ofLe (X.take 8) < m := by
  obtain ⟨b, hb, e⟩ := h.beg
  have h1 := v.fin
  have ht : (60 : Nat) ≤ top := by decide
  have eb : ofLe (X.take 8) = b := by rw [e, ofLe8 (by omega)]
  rw [eb] at h1 ⊢
  refine Decidable.byContradiction fun hn => h.fin b (by omega) hb ?_
  have w : X.length = 128 := h.wb
  have := le_ofLe (X.drop 120)
  rw [show (X.drop 120).length = 8 by simp; omega, h1] at this
  exact this.symm
theorem Slot.num {m : Nat} {X : Blk} (h : Slot m X) (hm : 1 ≤ m) : (getM X).1 < m := by
  by_cases v : Valid X
  · rw [get_ok v]; exact h.valid v
  · rw [(get_bad v).1]; omega
theorem getH_num (X : Blk) : (getH X).1 ≤ (getM X).1 := by
  unfold getH
  split
  · exact Nat.zero_le _
  · split
    · exact Nat.zero_le _
    · exact Nat.le_refl _
theorem slot_z {m : Nat} (hm : 1 ≤ m) : Slot m zblk :=
  ⟨WB_z, ⟨0, by omega, by decide⟩, fun j h1 h2 e => by
    have e0 : zblk.drop 120 = le 8 0 := by decide
    rw [e0] at e
    have := le8_inj (by decide) (by omega) e
    simp only [top] at this; omega⟩
theorem slot_seal {n m : Nat} {b : Blk} (hn : n < m) (h60 : n ≤ 60) (hb : b.length ≤ 108) : Slot m (sealB n b) :=
  ⟨sealB_WB hb, ⟨n, h60, sealB_8 n b⟩, fun j h1 h2 e => by
    rw [sealB_120 hb] at e
    have := le8_inj (by omega) (by omega) e
    simp only [top] at this; omega⟩
theorem torn_take {a b : Blk} {n : Nat} (hb : WB b) (hn : n ≤ 128) {k : Nat} (hk : k ≤ n) : (torn a b n).take k = b.take k := by
  unfold torn
  have hb' : b.length = 128 := hb
  rw [List.take_append_of_le_length (by simp; omega), List.take_take, Nat.min_eq_left hk]
theorem torn_drop {a b : Blk} {n : Nat} (hb : WB b) (hn : n ≤ 128) {k : Nat} (hk : n ≤ k) : (torn a b n).drop k = a.drop k := by
  unfold torn
  have hb' : b.length = 128 := hb
  have hl : (b.take n).length = n := by simp; omega
  rw [List.drop_append, List.drop_of_length_le (by omega), hl, List.nil_append, List.drop_drop]
  congr 1; omega
theorem le8_small {b : Nat} (hb : b ≤ 60) : le 8 b = UInt8.ofNat b :: [0, 0, 0, 0, 0, 0, 0] := by
  have : ∀ b, b ≤ 60 → le 8 b = UInt8.ofNat b :: [0, 0, 0, 0, 0, 0, 0] := by decide
  exact this b hb
theorem le8_top {b : Nat} (hb : b ≤ 60) : le 8 (top - b) = UInt8.ofNat (255 - b) :: [255, 255, 255, 255, 255, 255, 255] := by
  have : ∀ b, b ≤ 60 → le 8 (top - b) = UInt8.ofNat (255 - b) :: [255, 255, 255, 255, 255, 255, 255] := by decide
  exact this b hb
/-- Of a block of number m a beginning is written over one that counts less. -/
theorem slot_torn {m0 m : Nat} {X h : Blk} (hs : Slot m0 X) (h60 : m ≤ 60) (hh : h.length ≤ 108) {n : Nat} (hn : n ≤ 128) : torn X (sealB m h) n = sealB m h ∨ Slot m0 (torn X (sealB m h) n) := by
  have hw := sealB_WB (n := m) hh
  have hw' : (sealB m h).length = 128 := hw
  have hX : X.length = 128 := hs.wb
  obtain ⟨b, hb, eb⟩ := hs.beg
  by_cases h120 : n ≤ 120
  · right
    refine ⟨torn_len hs.wb hw, ?_, fun j h1 h2 => ?_⟩
    · by_cases h0 : n = 0
      · subst h0; refine ⟨b, hb, ?_⟩; unfold torn; simpa using eb
      · refine ⟨m, h60, ?_⟩
        by_cases h8 : 8 ≤ n
        · rw [torn_take hw hn h8, sealB_8]
        · have e1 : (torn X (sealB m h) n).take 8 = (sealB m h).take n ++ (X.take 8).drop n := by
            unfold torn
            rw [List.take_append, List.take_of_length_le (by simp; omega), List.drop_take]
            simp only [List.length_take, hw', show min n 128 = n by omega]
          have e2 : (sealB m h).take n = (le 8 m).take n := by rw [← sealB_8 m h, List.take_take, Nat.min_eq_left (by omega)]
          rw [e1, e2, eb, le8_small hb, le8_small h60]
          have h0' : n = 1 ∨ n = 2 ∨ n = 3 ∨ n = 4 ∨ n = 5 ∨ n = 6 ∨ n = 7 := by omega
          rcases h0' with rfl | rfl | rfl | rfl | rfl | rfl | rfl <;> rfl
    · rw [torn_drop hw hn h120]; exact hs.fin j h1 h2
  · by_cases he : (torn X (sealB m h) n).drop 120 = le 8 (top - m)
    · left
      have e1 := torn_take (a := X) hw hn (show 120 ≤ n by omega)
      rw [← List.take_append_drop 120 (torn X (sealB m h) n), e1, he, ← sealB_120 (n := m) hh, List.take_append_drop]
    · right
      refine ⟨torn_len hs.wb hw, ⟨m, h60, by rw [torn_take hw hn (by omega), sealB_8]⟩, fun j h1 h2 e => ?_⟩
      by_cases hj : j = m
      · subst hj; exact he e
      · have e1 := torn_take (a := X) hw hn (show 121 ≤ n by omega)
        have e2 := congrArg (fun l : Blk => l.drop 120) e1
        simp only [List.drop_take, sealB_120 hh, e, le8_top h2, le8_top h60] at e2
        simp at e2
        have e3 := congrArg UInt8.toNat e2
        simp at e3
        omega
/-! ### What stands on a disk -/
def bankS (S : List Blk) : Nat := (S.length - 2) / 2
def firstS (S : List Blk) (b : Nat) : Nat := 2 + b * bankS S
structure JSt (S : List Blk) (J : JM) (bs : List Blk) : Prop where
  lo : 64 ≤ S.length
  hi : S.length ≤ 4096
  wb : ∀ b ∈ S, WB b
  n1 : 1 ≤ J.n
  n2 : J.n ≤ 60
  may : J.h.may
  blocks : J.h.blocks = (Cut bs).length
  batches : J.h.batches = bs.length
  room : J.h.blocks ≤ bankS S
  sz : ∀ b ∈ bs, b.length ≤ 1048576
  cnt : ∀ i, i < J.h.blocks → S.getD (firstS S J.h.bank + i) [] = (Cut bs).getD i []
  heads : ∃ s, s < 2 ∧ S.getD s [] = (putH J.n J.h).1 ∧ Slot J.n (S.getD (1 - s) [])
/-- What counts. -/
def Live (S : List Blk) (J : JM) (k : Nat) : Prop := k < 2 ∨ (firstS S J.h.bank ≤ k ∧ k < firstS S J.h.bank + J.h.blocks)
theorem JSt.congr {S S' : List Blk} {J : JM} {bs : List Blk} (h : JSt S J bs) (hl : S'.length = S.length) (hw : ∀ b ∈ S', WB b) (he : ∀ k, Live S J k → S'.getD k [] = S.getD k []) : JSt S' J bs := by
  have hb : bankS S' = bankS S := by unfold bankS; rw [hl]
  have hf : ∀ b, firstS S' b = firstS S b := fun b => by unfold firstS; rw [hb]
  obtain ⟨s, h1, h2, h3⟩ := h.heads
  refine ⟨by rw [hl]; exact h.lo, by rw [hl]; exact h.hi, hw, h.n1, h.n2, h.may, h.blocks, h.batches, by rw [hb]; exact h.room, h.sz, fun i hi => ?_, s, h1, ?_, ?_⟩
  · rw [hf, he _ (.inr ⟨by omega, by omega⟩)]; exact h.cnt i hi
  · rw [he s (.inl h1)]; exact h2
  · rw [he (1 - s) (.inl (by omega))]; exact h3
theorem putH_ok {n : Nat} {h : HdM} (h1 : 1 ≤ n) (h2 : n ≤ 60) (hm : h.may) : putH n h = (sealB n h.bytes, 0) := by
  unfold putH; rw [if_neg]
  rintro (a | a | a)
  · omega
  · unfold most at a; omega
  · exact a hm
theorem JSt.newest {S : List Blk} {J : JM} {bs : List Blk} (h : JSt S J bs) : newH (S.getD 0 []) (S.getD 1 []) = (J.n, J.h, 0) ∧ ∃ s : Nat, s < 2 ∧ nextM (S.getD 0 []) (S.getD 1 []) = ((1 - s : Nat) : Int) ∧ S.getD s [] = (putH J.n J.h).1 ∧ Slot J.n (S.getD (1 - s) []) := by
  obtain ⟨s, h1, h2, h3⟩ := h.heads
  have hp := putH_ok h.n1 h.n2 h.may
  have hg : getH (sealB J.n J.h.bytes) = (J.n, J.h, 0) := by
    have := (get_put (n := J.n) (h := J.h) (by rw [hp])).2.2.2.2; rwa [hp] at this
  have hm : (getM (sealB J.n J.h.bytes)).1 = J.n := by rw [get_sealB h.n1 (Nat.le_trans h.n2 (by decide)) (by rw [bytes_len]; omega)]
  have hn := h3.num h.n1
  have hn2 := getH_num (S.getD (1 - s) [])
  have h1' := h.n1
  rw [hp] at h2
  dsimp only at h2
  refine ⟨?_, s, h1, ?_, by rw [hp]; exact h2, h3⟩
  · match s, h1 with
    | 0, _ =>
      rw [newH_eq, h2, hg, if_neg (by simp), if_neg (by simp only [Nat.sub_zero] at hn2 hn; omega)]
    | 1, _ =>
      rw [newH_eq, h2, hg, if_neg (by simp), if_pos (by simp only [Nat.sub_self] at hn2 hn; omega)]
  · match s, h1 with
    | 0, _ =>
      unfold nextM
      simp only [Nat.sub_zero] at hn
      rw [h2, hm, if_neg (by omega), if_neg (by omega)]; rfl
    | 1, _ =>
      unfold nextM
      simp only [Nat.sub_self] at hn
      rw [h2, hm, if_neg (by omega), if_pos (by omega)]; rfl
/-- A disk on which no write is under way, in the light. -/
structure Calm (D : DS) : Prop where
  lit : D.dark = false
  loose : D.loose = []
theorem Calm.litAt {D : DS} (h : Calm D) {k : Nat} (hk : k < D.sure.length) : D.lit (k : Int) = 0 := by
  unfold DS.lit DS.there errOf
  rw [h.lit, if_neg (by simp), if_pos (by omega)]
theorem Calm.read {D : DS} (h : Calm D) {k : Nat} (hk : k < D.sure.length) : D.read (k : Int) = (D.sure.getD k [], 0) := by
  unfold DS.read
  rw [h.litAt hk, if_neg (by simp)]
  simp [DS.get, h.loose]
theorem Calm.both {D : DS} (h : Calm D) (hl : 64 ≤ D.sure.length) : bothM D = (D.sure.getD 0 [], D.sure.getD 1 [], 0) := by
  unfold bothM
  have h0 := h.read (k := 0) (by omega)
  have h1 := h.read (k := 1) (by omega)
  simp only [Int.ofNat_zero, Int.ofNat_one] at h0 h1
  rw [h0, h1]; simp
theorem bank_eq (D : DS) : bankM D = bankS D.sure := rfl
theorem first_eq (D : DS) (b : Nat) : firstM D b = firstS D.sure b := rfl
theorem first_le {S : List Blk} {b i : Nat} (h64 : 64 ≤ S.length) (hb : b < 2) (hi : i < bankS S) : firstS S b + i < S.length := by
  unfold firstS bankS at *
  have : b = 0 ∨ b = 1 := by omega
  rcases this with rfl | rfl <;> omega
theorem JSt.read {D : DS} {J : JM} {bs : List Blk} (h : JSt D.sure J bs) (c : Calm D) : readM J D = (bs, 0) := by
  have hr := h.room
  unfold readM
  rw [bank_eq, first_eq, if_neg (by omega)]
  have e := rdAll_eq (D := D) (f := firstS D.sure J.h.bank) J.h.blocks 0 [] (fun i => (Cut bs).getD i []) (fun k _ hk => by
    have hlt := first_le h.lo h.may.1 (i := k) (by omega)
    have := c.read hlt
    rw [show ((firstS D.sure J.h.bank : Nat) : Int) + (k : Int) = ((firstS D.sure J.h.bank + k : Nat) : Int) by omega, this, h.cnt k (by omega)])
  have e2 : (List.range' 0 J.h.blocks).map (fun i => (Cut bs).getD i []) = Cut bs := by
    apply List.ext_getElem
    · simp [h.blocks]
    · intro i h1 h2
      simp [h2]
  rw [e2] at e
  rw [e]
  simp only [ne_eq, not_true_eq_false, if_false, List.nil_append]
  rw [h.batches, parse_print bs [] h.sz]; rfl
theorem JSt.opens {D : DS} {J : JM} {bs : List Blk} (h : JSt D.sure J bs) (c : Calm D) : openM D = (0, J) := by
  unfold openM
  rw [c.both h.lo]
  simp only [ne_eq, not_true_eq_false, if_false]
  rw [h.newest.1]
  have hn := h.n2
  simp only [not_true_eq_false, false_or]
  rw [if_neg (by omega), show (⟨J.n, J.h⟩ : JM) = J from rfl, h.read c]
end Go.Cx
/-! The journal in plain Lean: what is laid, wherever the power is cut. No program in sight. -/
namespace Go.Cx
theorem settleL_ne (picks : List Int) (o k : Nat) : ∀ (l : List (Nat × Blk)) (S : List Blk) (i : Nat), (∀ p ∈ l, p.1 ≠ k) → (settleL S picks o i l).getD k [] = S.getD k []
  | [], _, _, _ => rfl
  | p :: l, S, i, h => by
    simp only [settleL]
    rw [settleL_ne picks o k l _ _ (fun q hq => h q (by simp [hq]))]
    simp [List.getD, List.getElem?_set_ne (h p (by simp))]
theorem JSt.settled {S : List Blk} {J : JM} {bs : List Blk} (h : JSt S J bs) {l : List (Nat × Blk)} (hl : ∀ p ∈ l, ¬ Live S J p.1 ∧ p.1 < S.length ∧ WB p.2) (picks : List Int) (o i : Nat) : JSt (settleL S picks o i l) J bs :=
  h.congr (length_settleL _ _ _ _ _) (settleL_WB _ _ _ _ _ h.wb fun p hp => ⟨(hl p hp).2.1, (hl p hp).2.2⟩) fun k hk => settleL_ne picks o k l S i fun p hp e => (hl p hp).1 (by rw [e]; exact hk)
/-- The writes of blocks from one on. -/
def putsAt (at_ : Nat) (l : List Blk) : List (Nat × Blk) := (List.range l.length).map fun i => (at_ + i, l.getD i [])
theorem torn128 {a b : Blk} (ha : WB a) (hb : WB b) : torn a b 128 = b := by
  unfold torn; rw [List.take_of_length_le (by rw [hb]; omega), List.drop_of_length_le (by rw [ha]; omega)]; simp
theorem settle_puts (S : List Blk) (at_ : Nat) (l : List Blk) (hS : ∀ b ∈ S, WB b) (hl : ∀ b ∈ l, WB b) (hat : at_ + l.length ≤ S.length) (k : Nat) : ∀ (m : Nat), m ≤ l.length →
    (settleL S [] 128 0 ((List.range m).map fun i => (at_ + i, l.getD i []))).getD k [] = if at_ ≤ k ∧ k < at_ + m then l.getD (k - at_) [] else S.getD k []
  | 0, _ => by rw [if_neg (by omega)]; rfl
  | m + 1, hm => by
    have ih := settle_puts S at_ l hS hl hat k m (by omega)
    have hw := settleL_WB [] 128 ((List.range m).map fun i => (at_ + i, l.getD i [])) S 0 hS (fun p hp => by
      simp only [List.mem_map, List.mem_range] at hp
      obtain ⟨i, hi, rfl⟩ := hp
      exact ⟨by dsimp only; omega, getD_WB hl (by omega)⟩)
    have hlen := length_settleL [] 128 ((List.range m).map fun i => (at_ + i, l.getD i [])) S 0
    rw [List.range_succ, List.map_append, List.map_cons, List.map_nil, settleL_snoc]
    simp only [pickAt, List.getElem?_nil]
    rw [torn128 (getD_WB hw (by omega)) (getD_WB hl (by omega))]
    by_cases e : k = at_ + m
    · subst e
      rw [if_pos (by omega), Nat.add_sub_cancel_left]
      have : at_ + m < (settleL S [] 128 0 ((List.range m).map fun i => (at_ + i, l.getD i []))).length := by omega
      rw [List.getD_eq_getElem?_getD, List.getElem?_set_self this]; rfl
    · have : ∀ (T : List Blk) (x : Blk), (T.set (at_ + m) x).getD k [] = T.getD k [] := fun T x => by simp [List.getD, List.getElem?_set_ne (Ne.symm e)]
      rw [this, ih]
      by_cases h1 : at_ ≤ k ∧ k < at_ + m
      · rw [if_pos h1, if_pos (by omega)]
      · rw [if_neg h1, if_neg (by omega)]
/-- What laying asks, and comes to. -/
structure LayOk (S : List Blk) (J : JM) (at_ : Nat) (l : List Blk) (h : HdM) (bs : List Blk) : Prop where
  wl : ∀ b ∈ l, WB b
  hi : at_ + l.length ≤ S.length
  free : ∀ k, at_ ≤ k → k < at_ + l.length → ¬ Live S J k
  n2 : J.n ≤ 59
  may : h.may
  blocks : h.blocks = (Cut bs).length
  batches : h.batches = bs.length
  room : h.blocks ≤ bankS S
  sz : ∀ b ∈ bs, b.length ≤ 1048576
  cnt : ∀ i, i < h.blocks → (if at_ ≤ firstS S h.bank + i ∧ firstS S h.bank + i < at_ + l.length then l.getD (firstS S h.bank + i - at_) [] else S.getD (firstS S h.bank + i) []) = (Cut bs).getD i []
/-- What is known behind steps that may be cut. -/
def CutTo (picks0 : Prop) (S : List Blk) (J : JM) (bs : List Blk) (J' : JM) (bs' : List Blk) (D : DS) : Prop :=
  D.dark = true ∧ ∀ picks, D.sure.length = S.length ∧ (JSt (settleL D.sure picks 0 0 D.loose) J bs ∨ JSt (settleL D.sure picks 0 0 D.loose) J' bs')
theorem step_two (D : DS) : (D.left ≠ 0 ∧ D.step = (9, { D with dark := true })) ∨ (D.step = (0, { D with left := max (D.left - 1) 0, steps := D.steps + 1 })) := by
  unfold DS.step
  by_cases h : D.left = 1
  · rw [if_pos h]; exact .inl ⟨by omega, rfl⟩
  · rw [if_neg h]; exact .inr rfl
structure Wrote (S : List Blk) (at_ : Nat) (l : List Blk) (i : Nat) (D0 D : DS) : Prop where
  lit : D.dark = false
  sure : D.sure = S
  loose : D.loose = (List.range i).map fun j => (at_ + j, l.getD j [])
  left : D0.left = 0 → D.left = 0
theorem run_writes {S : List Blk} {at_ : Nat} {l : List Blk} (hi : at_ + l.length ≤ S.length) (D0 : DS) (rest : List (DS → Int × DS)) : ∀ (m i : Nat) (D : DS), i + m = l.length → Wrote S at_ l i D0 D →
    (∃ D', Wrote S at_ l l.length D0 D' ∧ runM (((List.range' i m).map fun (j : Nat) (D : DS) => D.write ((at_ : Int) + (j : Int)) (l.getD j [])) ++ rest) D = runM rest D') ∨
    (∃ D' k, k ≤ l.length ∧ D0.left ≠ 0 ∧ D'.dark = true ∧ D'.sure = S ∧ D'.loose = ((List.range k).map fun j => (at_ + j, l.getD j [])) ∧ runM (((List.range' i m).map fun (j : Nat) (D : DS) => D.write ((at_ : Int) + (j : Int)) (l.getD j [])) ++ rest) D = (9, D'))
  | 0, i, D, h, w => .inl ⟨D, by rw [Nat.add_zero] at h; rw [← h]; exact w, by simp⟩
  | m + 1, i, D, h, w => by
    have hlit : D.lit ((at_ : Int) + (i : Int)) = 0 := by
      unfold DS.lit DS.there errOf
      rw [w.lit, if_neg (by simp), if_pos (by rw [w.sure]; omega)]
    rw [List.range'_succ, List.map_cons, List.cons_append, runM]
    rcases step_two D with ⟨h1, h2⟩ | h2
    · right
      have e : D.write ((at_ : Int) + (i : Int)) (l.getD i []) = (9, { D with dark := true }) := by
        unfold DS.write; rw [hlit, h2]; simp
      refine ⟨{ D with dark := true }, i, by omega, fun h0 => h1 (w.left h0), rfl, w.sure, w.loose, ?_⟩
      rw [e]; simp
    · have e : D.write ((at_ : Int) + (i : Int)) (l.getD i []) = (0, { D with left := max (D.left - 1) 0, steps := D.steps + 1, loose := D.loose ++ [(at_ + i, l.getD i [])] }) := by
        unfold DS.write; rw [hlit, h2]; simp
        omega
      rw [e]
      simp only [ne_eq, not_true_eq_false, if_false]
      exact run_writes hi D0 rest m (i + 1) _ (by omega) ⟨w.lit, w.sure, by simp [w.loose, List.range_succ], fun h0 => by have := w.left h0; dsimp only; omega⟩
theorem live_lt {S : List Blk} {J : JM} {bs : List Blk} (h : JSt S J bs) {k : Nat} (hk : 2 ≤ k) : ¬ k < 2 := by omega
/-- A head is written over the slot that counts less. -/
theorem head_new {S : List Blk} {J : JM} {bs : List Blk} {h : HdM} {bs' : List Blk} {s : Nat} (j : JSt S J bs) (hs : s < 2) (h1 : S.getD s [] = (putH J.n J.h).1) (h2 : Slot J.n (S.getD (1 - s) [])) (n2 : J.n ≤ 59)
    (may : h.may) (blocks : h.blocks = (Cut bs').length) (batches : h.batches = bs'.length) (room : h.blocks ≤ bankS S) (sz : ∀ b ∈ bs', b.length ≤ 1048576)
    (cnt : ∀ i, i < h.blocks → S.getD (firstS S h.bank + i) [] = (Cut bs').getD i []) {n : Nat} (hn : n ≤ 128) :
    (JSt (S.set (1 - s) (torn (S.getD (1 - s) []) (putH (J.n + 1) h).1 n)) J bs ∨ JSt (S.set (1 - s) (torn (S.getD (1 - s) []) (putH (J.n + 1) h).1 n)) ⟨J.n + 1, h⟩ bs') ∧
    (n = 128 → JSt (S.set (1 - s) (torn (S.getD (1 - s) []) (putH (J.n + 1) h).1 n)) ⟨J.n + 1, h⟩ bs') := by
  have hp := putH_ok (n := J.n + 1) (h := h) (by omega) (by omega) may
  have hp0 := putH_ok (n := J.n) (h := J.h) j.n1 j.n2 j.may
  have lo := j.lo
  have hb9 : h.bytes.length ≤ 108 := by rw [bytes_len]; omega
  rw [hp]
  dsimp only
  have key := slot_torn (m := J.n + 1) h2 (by omega) hb9 hn
  have wl : ∀ X, WB X → ∀ b ∈ S.set (1 - s) X, WB b := fun X hX b hb => by
    rcases List.mem_or_eq_of_mem_set hb with hb | rfl
    · exact j.wb b hb
    · exact hX
  have g1 : ∀ X, (S.set (1 - s) X).getD (1 - s) [] = X := fun X => by simp [List.getD, List.getElem?_set_self (show 1 - s < S.length by omega)]
  have g2 : ∀ X k, k ≠ 1 - s → (S.set (1 - s) X).getD k [] = S.getD k [] := fun X k hk => by simp [List.getD, List.getElem?_set_ne (Ne.symm hk)]
  have hbk : ∀ X, bankS (S.set (1 - s) X) = bankS S := fun X => by unfold bankS; rw [List.length_set]
  have hfs : ∀ X b, firstS (S.set (1 - s) X) b = firstS S b := fun X b => by unfold firstS; rw [hbk]
  have f2 : ∀ b, 2 ≤ firstS S b := fun b => by unfold firstS; omega
  have old : ∀ X, Slot J.n X → JSt (S.set (1 - s) X) J bs := fun X hX => by
    refine ⟨by rw [List.length_set]; exact j.lo, by rw [List.length_set]; exact j.hi, wl X hX.wb, j.n1, j.n2, j.may, j.blocks, j.batches, by rw [hbk]; exact j.room, j.sz, fun i hi => ?_, s, hs, ?_, ?_⟩
    · rw [hfs, g2 _ _ (by have := f2 J.h.bank; omega)]; exact j.cnt i hi
    · rw [g2 _ _ (by omega)]; exact h1
    · rw [g1]; exact hX
  have new : JSt (S.set (1 - s) (sealB (J.n + 1) h.bytes)) ⟨J.n + 1, h⟩ bs' := by
    refine ⟨by rw [List.length_set]; exact j.lo, by rw [List.length_set]; exact j.hi, wl _ (sealB_WB hb9), by dsimp only; omega, by dsimp only; omega, may, blocks, batches, by rw [hbk]; exact room, sz, fun i hi => ?_, 1 - s, by omega, ?_, ?_⟩
    · dsimp only at hi ⊢
      rw [hfs, g2 _ _ (by have := f2 h.bank; omega)]; exact cnt i hi
    · rw [g1, hp]
    · dsimp only
      rw [show 1 - (1 - s) = s by omega, g2 _ _ (by omega), h1, hp0]
      exact slot_seal (by omega) j.n2 (by rw [bytes_len]; omega)
  have hfull : n = 128 → torn (S.getD (1 - s) []) (sealB (J.n + 1) h.bytes) n = sealB (J.n + 1) h.bytes := fun e => by subst e; exact torn128 h2.wb (sealB_WB hb9)
  refine ⟨?_, fun e => by rw [hfull e]; exact new⟩
  rcases key with e | e
  · rw [e]; exact .inr new
  · exact .inl (old _ e)
/-- Laying, wherever the power is cut. -/
theorem lay_out {D : DS} {J : JM} {bs bs' : List Blk} {at_ : Nat} {l : List Blk} {h : HdM} (j : JSt D.sure J bs) (c : Calm D) (o : LayOk D.sure J at_ l h bs') :
    ((layM J at_ l h D).1 = 0 ∧ (layM J at_ l h D).2.1 = ⟨J.n + 1, h⟩ ∧ Calm (layM J at_ l h D).2.2 ∧ (layM J at_ l h D).2.2.sure.length = D.sure.length ∧ JSt (layM J at_ l h D).2.2.sure ⟨J.n + 1, h⟩ bs' ∧ (D.left = 0 → (layM J at_ l h D).2.2.left = 0)) ∨
    ((layM J at_ l h D).1 = 9 ∧ D.left ≠ 0 ∧ (layM J at_ l h D).2.1 = J ∧ (layM J at_ l h D).2.2.dark = true ∧ (layM J at_ l h D).2.2.sure.length = D.sure.length ∧
      ∀ picks, JSt ((layM J at_ l h D).2.2.crash picks).sure J bs ∨ JSt ((layM J at_ l h D).2.2.crash picks).sure ⟨J.n + 1, h⟩ bs') := by
  obtain ⟨S, hS⟩ : ∃ S, S = D.sure := ⟨_, rfl⟩
  rw [← hS] at j o ⊢
  have lo := j.lo
  have hw0 : Wrote S at_ l 0 D D := ⟨c.lit, hS.symm, by simp [c.loose], fun h => h⟩
  have hrun := run_writes o.hi D [DS.flush, markM J h, DS.flush] l.length 0 D (by omega) hw0
  have hls : layS J at_ l h = ((List.range' 0 l.length).map fun (j : Nat) (D : DS) => D.write ((at_ : Int) + (j : Int)) (l.getD j [])) ++ [DS.flush, markM J h, DS.flush] := by
    unfold layS writesM; rw [List.range_eq_range']
  rw [← hls] at hrun
  have hputs : ∀ k, k ≤ l.length → ∀ p ∈ (List.range k).map (fun j => (at_ + j, l.getD j [])), ¬ Live S J p.1 ∧ p.1 < S.length ∧ WB p.2 := fun k hk p hp => by
    have oh := o.hi
    simp only [List.mem_map, List.mem_range] at hp
    obtain ⟨i, hi, rfl⟩ := hp
    exact ⟨o.free _ (by dsimp only; omega) (by dsimp only; omega), by dsimp only; omega, getD_WB o.wl (by omega)⟩
  have dark : ∀ (D' : DS), D'.dark = true → D.left ≠ 0 → D'.sure.length = S.length → (∀ picks, JSt (D'.crash picks).sure J bs ∨ JSt (D'.crash picks).sure ⟨J.n + 1, h⟩ bs') → runM (layS J at_ l h) D = (9, D') →
      ((layM J at_ l h D).1 = 9 ∧ D.left ≠ 0 ∧ (layM J at_ l h D).2.1 = J ∧ (layM J at_ l h D).2.2.dark = true ∧ (layM J at_ l h D).2.2.sure.length = S.length ∧
      ∀ picks, JSt ((layM J at_ l h D).2.2.crash picks).sure J bs ∨ JSt ((layM J at_ l h D).2.2.crash picks).sure ⟨J.n + 1, h⟩ bs') := fun D' h1 h2 h3 h4 h5 => by
    unfold layM; rw [h5]; exact ⟨rfl, h2, rfl, h1, h3, h4⟩
  rcases hrun with ⟨D1, w1, e1⟩ | ⟨D1, k, hk, hl0, hd, hs1, hlo, e1⟩
  rotate_left
  · refine .inr (dark D1 hd hl0 (by rw [hs1]) (fun picks => .inl ?_) e1)
    show JSt (settleL D1.sure picks 0 0 D1.loose) J bs
    rw [hs1, hlo]
    exact j.settled (hputs k hk) _ _ _
  -- the first flush
  rw [runM] at e1
  have lit1 : D1.lit 0 = 0 := by
    unfold DS.lit DS.there errOf
    rw [w1.lit, if_neg (by simp), w1.sure, if_pos (by omega)]
  rcases step_two D1 with ⟨h1, h2⟩ | h2
  · have e : D1.flush = (9, { D1 with dark := true }) := by unfold DS.flush; rw [lit1, h2]; simp
    rw [e] at e1
    refine .inr (dark { D1 with dark := true } rfl (fun h0 => h1 (w1.left h0)) (by rw [w1.sure]) (fun picks => .inl ?_) (by rw [e1]; simp))
    show JSt (settleL D1.sure picks 0 0 D1.loose) J bs
    rw [w1.sure, w1.loose]
    exact j.settled (hputs _ (Nat.le_refl _)) _ _ _
  have e : D1.flush = (0, { D1 with sure := settleL S [] 128 0 ((List.range l.length).map fun j => (at_ + j, l.getD j [])), loose := [], left := max (D1.left - 1) 0, steps := D1.steps + 1 }) := by
    unfold DS.flush; rw [lit1, h2]; simp [DS.settle, w1.sure, w1.loose]
  have j2 : JSt (settleL S [] 128 0 ((List.range l.length).map fun j => (at_ + j, l.getD j []))) J bs := j.settled (hputs _ (Nat.le_refl _)) _ _ _
  have g2 := fun k => settle_puts S at_ l j.wb o.wl o.hi k l.length (Nat.le_refl _)
  have len2 := length_settleL [] 128 ((List.range l.length).map fun j => (at_ + j, l.getD j [])) S 0
  rw [e] at e1
  simp only [ne_eq, not_true_eq_false, if_false] at e1
  generalize settleL S [] 128 0 ((List.range l.length).map fun j => (at_ + j, l.getD j [])) = S2 at *
  obtain ⟨D2, hD2⟩ : ∃ D2 : DS, D2 = { D1 with sure := S2, loose := [], left := max (D1.left - 1) 0, steps := D1.steps + 1 } := ⟨_, rfl⟩
  rw [← hD2] at e1
  have c2 : Calm D2 := ⟨by rw [hD2]; exact w1.lit, by rw [hD2]⟩
  have s2 : D2.sure = S2 := by rw [hD2]
  have l2 : D.left = 0 → D2.left = 0 := fun h0 => by rw [hD2]; have := w1.left h0; dsimp only; omega
  -- the head
  rw [runM] at e1
  have hb2 := c2.both (by rw [s2]; omega)
  rw [s2] at hb2
  obtain ⟨s, hs, hnx, hs1, hs2⟩ := j2.newest.2
  have hp := putH_ok (n := J.n + 1) (h := h) (by omega) (by have := o.n2; omega) o.may
  have hpw := putH_WB (J.n + 1) h
  have em : markM J h D2 = D2.write ((1 - s : Nat) : Int) (putH (J.n + 1) h).1 := by
    unfold markM; rw [hb2]; simp only [ne_eq, not_true_eq_false, if_false]
    rw [if_neg (by rw [hp]; simp), hnx]
  have lit2 : D2.lit ((1 - s : Nat) : Int) = 0 := c2.litAt (by rw [s2]; omega)
  have bk2 : bankS S2 = bankS S := by unfold bankS; rw [len2]
  have fs2 : ∀ b, firstS S2 b = firstS S b := fun b => by unfold firstS; rw [bk2]
  have hn := fun {n : Nat} (hn : n ≤ 128) => head_new (n := n) (bs' := bs') j2 hs hs1 hs2 o.n2 o.may o.blocks o.batches (by rw [bk2]; exact o.room) o.sz (fun i hi => by rw [fs2, g2]; exact o.cnt i hi) hn
  rcases step_two D2 with ⟨h3, h4⟩ | h4
  · have e3 : D2.write ((1 - s : Nat) : Int) (putH (J.n + 1) h).1 = (9, { D2 with dark := true }) := by unfold DS.write; rw [lit2, h4]; simp
    rw [em, e3] at e1
    refine .inr (dark { D2 with dark := true } rfl (fun h0 => h3 (l2 h0)) (by dsimp only; rw [s2]; exact len2) (fun picks => .inl ?_) (by rw [e1]; simp))
    show JSt (settleL D2.sure picks 0 0 D2.loose) J bs
    rw [c2.loose, s2]; exact j2
  have e3 : D2.write ((1 - s : Nat) : Int) (putH (J.n + 1) h).1 = (0, { D2 with loose := [(1 - s, (putH (J.n + 1) h).1)], left := max (D2.left - 1) 0, steps := D2.steps + 1 }) := by
    unfold DS.write; rw [lit2, h4]; simp [c2.loose]
  rw [em, e3] at e1
  simp only [ne_eq, not_true_eq_false, if_false] at e1
  obtain ⟨D3, hD3⟩ : ∃ D3 : DS, D3 = { D2 with loose := [(1 - s, (putH (J.n + 1) h).1)], left := max (D2.left - 1) 0, steps := D2.steps + 1 } := ⟨_, rfl⟩
  rw [← hD3] at e1
  have s3 : D3.sure = S2 := by rw [hD3]; exact s2
  have lo3 : D3.loose = [(1 - s, (putH (J.n + 1) h).1)] := by rw [hD3]
  have dk3 : D3.dark = false := by rw [hD3]; exact c2.lit
  have l3 : D.left = 0 → D3.left = 0 := fun h0 => by rw [hD3]; have := l2 h0; dsimp only; omega
  -- the last flush
  rw [runM] at e1
  have lit3 : D3.lit 0 = 0 := by
    unfold DS.lit DS.there errOf
    rw [dk3, if_neg (by simp), s3, if_pos (by omega)]
  rcases step_two D3 with ⟨h5, h6⟩ | h6
  · have e4 : D3.flush = (9, { D3 with dark := true }) := by unfold DS.flush; rw [lit3, h6]; simp
    rw [e4] at e1
    refine .inr (dark { D3 with dark := true } rfl (fun h0 => h5 (l3 h0)) (by dsimp only; rw [s3]; exact len2) (fun picks => ?_) (by rw [e1]; simp))
    show JSt (settleL D3.sure picks 0 0 D3.loose) J bs ∨ JSt (settleL D3.sure picks 0 0 D3.loose) _ bs'
    rw [s3, lo3]
    simp only [settleL]
    refine (hn ?_).1
    unfold pickAt
    split <;> omega
  · have e4 : D3.flush = (0, { D3 with sure := settleL S2 [] 128 0 [(1 - s, (putH (J.n + 1) h).1)], loose := [], left := max (D3.left - 1) 0, steps := D3.steps + 1 }) := by
      unfold DS.flush; rw [lit3, h6]; simp [DS.settle, s3, lo3]
    rw [e4] at e1
    simp only [ne_eq, not_true_eq_false, if_false, runM] at e1
    left
    have el : layM J at_ l h D = (0, ⟨J.n + 1, h⟩, { D3 with sure := settleL S2 [] 128 0 [(1 - s, (putH (J.n + 1) h).1)], loose := [], left := max (D3.left - 1) 0, steps := D3.steps + 1 }) := by
      unfold layM; rw [e1]; simp
    rw [el]
    refine ⟨rfl, rfl, ⟨dk3, rfl⟩, ?_, ?_, fun h0 => by have := l3 h0; dsimp only; omega⟩
    · dsimp only; rw [length_settleL]; exact len2
    · dsimp only
      simp only [settleL, pickAt, List.getElem?_nil]
      exact (hn (Nat.le_refl _)).2 rfl
end Go.Cx
/-! The journal in plain Lean: Append, Replace, Make. No program in sight. -/
namespace Go.Cx
theorem asked_ok {D : DS} {b : Blk} (c : Calm D) (hb : b.length ≤ 1048576) : askedM D b = (cutB b, 0) := by
  unfold askedM; rw [if_neg (by omega), if_neg (by simp [c.lit])]
theorem asked_long {D : DS} {b : Blk} (hb : 1048576 < b.length) : askedM D b = ([], 3) := by
  unfold askedM; rw [if_pos hb]
theorem first_of {S : List Blk} {b b' i j : Nat} (hb : b < 2) (hb' : b' < 2) (hi : i < bankS S) (hj : j < bankS S) (e : firstS S b + i = firstS S b' + j) : b = b' ∧ i = j := by
  unfold firstS at e
  have h1 : b = 0 ∨ b = 1 := by omega
  have h2 : b' = 0 ∨ b' = 1 := by omega
  rcases h1 with rfl | rfl <;> rcases h2 with rfl | rfl <;> omega
theorem append_out {D : DS} {J : JM} {bs : List Blk} {b : Blk} (j : JSt D.sure J bs) (c : Calm D) (n2 : J.n ≤ 59) (hb : b.length ≤ 1048576) :
    (bankS D.sure < J.h.blocks + (cutB b).length → appendM J D b = (10, J, D)) ∧
    (J.h.blocks + (cutB b).length ≤ bankS D.sure → appendM J D b = layM J (firstM D J.h.bank + J.h.blocks) (cutB b) ⟨J.h.bank, J.h.blocks + (cutB b).length, J.h.batches + 1⟩ D ∧
      LayOk D.sure J (firstM D J.h.bank + J.h.blocks) (cutB b) ⟨J.h.bank, J.h.blocks + (cutB b).length, J.h.batches + 1⟩ (bs ++ [b])) := by
  have ha := asked_ok c hb
  have hp := cut_pos b
  refine ⟨fun h => ?_, fun h => ⟨?_, ?_⟩⟩
  · unfold appendM; rw [ha, bank_eq]; simp only [ne_eq, not_true_eq_false, if_false]; rw [if_pos (by omega)]
  · unfold appendM; rw [ha, bank_eq]; simp only [ne_eq, not_true_eq_false, if_false]; rw [if_neg (by omega)]
  · obtain ⟨m1, m2, m3⟩ := j.may
    have hlast := first_le j.lo m1 (i := J.h.blocks + (cutB b).length - 1) (by omega)
    have hi := j.hi
    have hbk : bankS D.sure ≤ 2047 := by unfold bankS; omega
    rw [first_eq]
    have hcl := j.blocks
    refine ⟨chop_WB _, by omega, fun k h1 h2 => ?_, n2, ⟨m1, by dsimp only; omega, by dsimp only; omega⟩, by rw [Cut_snoc, List.length_append, ← hcl], by simp [j.batches], h, fun x hx => ?_, fun i hi => ?_⟩
    · rintro (h3 | ⟨h3, h4⟩)
      · have : 2 ≤ firstS D.sure J.h.bank := by unfold firstS; omega
        omega
      · omega
    · simp only [List.mem_append, List.mem_singleton] at hx
      rcases hx with hx | rfl
      · exact j.sz x hx
      · exact hb
    · dsimp only at hi ⊢
      rw [Cut_snoc]
      by_cases h1 : i < J.h.blocks
      · rw [if_neg (by omega), j.cnt i h1]
        simp only [List.getD_eq_getElem?_getD]
        rw [List.getElem?_append_left (by omega)]
      · rw [if_pos (by omega), show firstS D.sure J.h.bank + i - (firstS D.sure J.h.bank + J.h.blocks) = i - (Cut bs).length by omega]
        simp only [List.getD_eq_getElem?_getD]
        rw [List.getElem?_append_right (by omega)]
theorem replace_out {D : DS} {J : JM} {bs : List Blk} {b : Blk} (j : JSt D.sure J bs) (c : Calm D) (n2 : J.n ≤ 59) (hb : b.length ≤ 1048576) :
    (bankS D.sure < (cutB b).length → replaceM J D b = (10, J, D)) ∧
    ((cutB b).length ≤ bankS D.sure → replaceM J D b = layM J (firstM D (1 - J.h.bank)) (cutB b) ⟨1 - J.h.bank, (cutB b).length, 1⟩ D ∧
      LayOk D.sure J (firstM D (1 - J.h.bank)) (cutB b) ⟨1 - J.h.bank, (cutB b).length, 1⟩ [b]) := by
  have ha := asked_ok c hb
  have hp := cut_pos b
  refine ⟨fun h => ?_, fun h => ⟨?_, ?_⟩⟩
  · unfold replaceM; rw [ha, bank_eq]; simp only [ne_eq, not_true_eq_false, if_false]; rw [if_pos (by omega)]
  · unfold replaceM; rw [ha, bank_eq]; simp only [ne_eq, not_true_eq_false, if_false]; rw [if_neg (by omega)]
  · obtain ⟨m1, m2, m3⟩ := j.may
    have hlast := first_le j.lo (show 1 - J.h.bank < 2 by omega) (i := (cutB b).length - 1) (by omega)
    have hi := j.hi
    have hr := j.room
    have hbk : bankS D.sure ≤ 2047 := by unfold bankS; omega
    rw [first_eq]
    refine ⟨chop_WB _, by omega, fun k h1 h2 => ?_, n2, ⟨by dsimp only; omega, by dsimp only; omega, by dsimp only; omega⟩, by rw [Cut_one], rfl, h, fun x hx => by rw [List.mem_singleton.1 hx]; exact hb, fun i hi => ?_⟩
    · rintro (h3 | ⟨h3, h4⟩)
      · have : 2 ≤ firstS D.sure (1 - J.h.bank) := by unfold firstS; omega
        omega
      · have := first_of (S := D.sure) (b := 1 - J.h.bank) (b' := J.h.bank) (i := k - firstS D.sure (1 - J.h.bank)) (j := k - firstS D.sure J.h.bank) (by omega) m1 (by omega) (by omega) (by omega)
        omega
    · dsimp only at hi ⊢
      rw [if_pos (by omega), Nat.add_sub_cancel_left, Cut_one]
/-- Append where the power is not cut. -/
theorem append_go {D : DS} {J : JM} {bs : List Blk} {b : Blk} (j : JSt D.sure J bs) (c : Calm D) (hl : D.left = 0) (n2 : J.n ≤ 59) (hb : b.length ≤ 1048576) (hr : J.h.blocks + (cutB b).length ≤ bankS D.sure) :
    ∃ D', appendM J D b = (0, ⟨J.n + 1, ⟨J.h.bank, J.h.blocks + (cutB b).length, J.h.batches + 1⟩⟩, D') ∧ Calm D' ∧ D'.left = 0 ∧ D'.sure.length = D.sure.length ∧ JSt D'.sure ⟨J.n + 1, ⟨J.h.bank, J.h.blocks + (cutB b).length, J.h.batches + 1⟩⟩ (bs ++ [b]) := by
  obtain ⟨e, o⟩ := (append_out j c n2 hb).2 hr
  rcases lay_out j c o with ⟨h1, h2, h3, h4, h5, h6⟩ | ⟨-, h2, -⟩
  · refine ⟨_, ?_, h3, h6 hl, h4, h5⟩
    rw [e, ← h1, ← h2]
  · exact absurd hl h2
theorem replace_go {D : DS} {J : JM} {bs : List Blk} {b : Blk} (j : JSt D.sure J bs) (c : Calm D) (hl : D.left = 0) (n2 : J.n ≤ 59) (hb : b.length ≤ 1048576) (hr : (cutB b).length ≤ bankS D.sure) :
    ∃ D', replaceM J D b = (0, ⟨J.n + 1, ⟨1 - J.h.bank, (cutB b).length, 1⟩⟩, D') ∧ Calm D' ∧ D'.left = 0 ∧ D'.sure.length = D.sure.length ∧ JSt D'.sure ⟨J.n + 1, ⟨1 - J.h.bank, (cutB b).length, 1⟩⟩ [b] := by
  obtain ⟨e, o⟩ := (replace_out j c n2 hb).2 hr
  rcases lay_out j c o with ⟨h1, h2, h3, h4, h5, h6⟩ | ⟨-, h2, -⟩
  · refine ⟨_, ?_, h3, h6 hl, h4, h5⟩
    rw [e, ← h1, ← h2]
  · exact absurd hl h2
/-- A new journal on a new disk. -/
theorem make_new {n : Nat} (h1 : 64 ≤ n) (h2 : n ≤ 4096) : (makeM (DS.new n)).1 = 0 ∧ (makeM (DS.new n)).2.1 = ⟨1, HdM.z⟩ ∧ Calm (makeM (DS.new n)).2.2 ∧ (makeM (DS.new n)).2.2.left = 0 ∧ (makeM (DS.new n)).2.2.sure.length = n ∧ JSt (makeM (DS.new n)).2.2.sure ⟨1, HdM.z⟩ [] := by
  obtain ⟨S, hS⟩ : ∃ S, S = (DS.new n).sure := ⟨_, rfl⟩
  have lS : S.length = n := by rw [hS]; simp [DS.new]
  have wS : ∀ b ∈ S, WB b := by rw [hS]; intro b hb; rw [List.eq_of_mem_replicate hb]; exact WB_z
  have gS : ∀ k, k < n → S.getD k [] = zblk := fun k hk => by rw [hS]; simp [DS.new, hk]
  have hrun := run_writes (S := S) (at_ := 0) (l := [zblk, zblk]) (by simp; omega) (DS.new n) [DS.flush, markM ⟨0, HdM.z⟩ HdM.z, DS.flush] 2 0 (DS.new n) rfl ⟨rfl, hS.symm, rfl, fun h => h⟩
  have hls : layS ⟨0, HdM.z⟩ 0 [zblk, zblk] HdM.z = ((List.range' 0 2).map fun (j : Nat) (D : DS) => D.write (((0 : Nat) : Int) + (j : Int)) ([zblk, zblk].getD j [])) ++ [DS.flush, markM ⟨0, HdM.z⟩ HdM.z, DS.flush] := by
    unfold layS writesM; rw [List.range_eq_range']; rfl
  rw [← hls] at hrun
  rcases hrun with ⟨D1, w1, e1⟩ | ⟨D1, k, hk, hl0, -⟩
  rotate_left
  · exact absurd rfl hl0
  have l1 := w1.left rfl
  have st : ∀ D : DS, D.left = 0 → D.step = (0, { D with left := 0, steps := D.steps + 1 }) := fun D h => by unfold DS.step; rw [if_neg (by omega), h]; rfl
  rw [runM] at e1
  have lit1 : D1.lit 0 = 0 := by
    unfold DS.lit DS.there errOf
    rw [w1.lit, if_neg (by simp), w1.sure, if_pos (by omega)]
  have e : D1.flush = (0, { D1 with sure := settleL S [] 128 0 ((List.range 2).map fun j => (0 + j, [zblk, zblk].getD j [])), loose := [], left := 0, steps := D1.steps + 1 }) := by
    unfold DS.flush; rw [lit1, st D1 l1]; simp [DS.settle, w1.sure, w1.loose]
  have g2 := fun k => settle_puts S 0 [zblk, zblk] wS (fun b hb => by simp at hb; subst hb; exact WB_z) (by simp; omega) k 2 (Nat.le_refl _)
  have len2 := length_settleL [] 128 ((List.range 2).map fun j => (0 + j, [zblk, zblk].getD j [])) S 0
  have wb2 := settleL_WB [] 128 ((List.range 2).map fun j => (0 + j, [zblk, zblk].getD j [])) S 0 wS (fun p hp => by
    simp only [List.mem_map, List.mem_range] at hp
    obtain ⟨i, hi, rfl⟩ := hp
    refine ⟨by dsimp only; omega, ?_⟩
    match i, hi with
    | 0, _ => exact WB_z
    | 1, _ => exact WB_z)
  rw [e] at e1
  simp only [ne_eq, not_true_eq_false, if_false] at e1
  generalize settleL S [] 128 0 ((List.range 2).map fun j => (0 + j, [zblk, zblk].getD j [])) = S2 at *
  have g2' : ∀ k, k < n → S2.getD k [] = zblk := fun k hk => by
    rw [g2 k]
    split
    · rename_i h; have : k = 0 ∨ k = 1 := by omega
      rcases this with rfl | rfl <;> rfl
    · exact gS k hk
  obtain ⟨D2, hD2⟩ : ∃ D2 : DS, D2 = { D1 with sure := S2, loose := [], left := 0, steps := D1.steps + 1 } := ⟨_, rfl⟩
  rw [← hD2] at e1
  have c2 : Calm D2 := ⟨by rw [hD2]; exact w1.lit, by rw [hD2]⟩
  have s2 : D2.sure = S2 := by rw [hD2]
  have l2 : D2.left = 0 := by rw [hD2]
  rw [runM] at e1
  have hb2 := c2.both (by rw [s2]; omega)
  rw [s2, g2' 0 (by omega), g2' 1 (by omega)] at hb2
  have hp := putH_ok (n := 0 + 1) (h := HdM.z) (by omega) (by omega) (by decide)
  have hnx : nextM zblk zblk = 0 := by decide +kernel
  have em : markM ⟨0, HdM.z⟩ HdM.z D2 = D2.write 0 (sealB 1 HdM.z.bytes) := by
    unfold markM; rw [hb2]; simp only [ne_eq, not_true_eq_false, if_false]
    rw [hp, hnx]; simp
  have lit2 : D2.lit 0 = 0 := c2.litAt (k := 0) (by rw [s2]; omega)
  have e3 : D2.write 0 (sealB 1 HdM.z.bytes) = (0, { D2 with loose := [(0, sealB 1 HdM.z.bytes)], left := 0, steps := D2.steps + 1 }) := by
    unfold DS.write; rw [lit2, st D2 l2]; simp [c2.loose]
  rw [em, e3] at e1
  simp only [ne_eq, not_true_eq_false, if_false] at e1
  rw [runM] at e1
  have e4 : ({ D2 with loose := [(0, sealB 1 HdM.z.bytes)], left := 0, steps := D2.steps + 1 } : DS).flush = (0, { D2 with sure := settleL S2 [] 128 0 [(0, sealB 1 HdM.z.bytes)], loose := [], left := 0, steps := D2.steps + 1 + 1 }) := by
    unfold DS.flush
    rw [show ({ D2 with loose := [(0, sealB 1 HdM.z.bytes)], left := 0, steps := D2.steps + 1 } : DS).lit 0 = 0 from lit2, st _ rfl]
    simp [DS.settle, s2]
  rw [e4] at e1
  simp only [ne_eq, not_true_eq_false, if_false, runM] at e1
  have el : makeM (DS.new n) = (0, ⟨1, HdM.z⟩, { D2 with sure := settleL S2 [] 128 0 [(0, sealB 1 HdM.z.bytes)], loose := [], left := 0, steps := D2.steps + 1 + 1 }) := by
    unfold makeM layM; rw [e1]; simp
  have hw1 : WB (sealB 1 HdM.z.bytes) := sealB_WB (by decide)
  have hset : settleL S2 [] 128 0 [(0, sealB 1 HdM.z.bytes)] = S2.set 0 (sealB 1 HdM.z.bytes) := by
    simp only [settleL, pickAt, List.getElem?_nil]
    rw [torn128 (by rw [g2' 0 (by omega)]; exact WB_z) hw1]
  rw [el, hset]
  refine ⟨rfl, rfl, ⟨c2.lit, rfl⟩, rfl, by dsimp only; rw [List.length_set]; omega, ?_⟩
  dsimp only
  refine ⟨by rw [List.length_set]; omega, by rw [List.length_set]; omega, fun b hb => ?_, by decide, by decide, by decide, rfl, rfl, Nat.zero_le _, (fun b hb => by cases hb), fun i hi => absurd hi (Nat.not_lt_zero _), 0, by omega, ?_, ?_⟩
  · rcases List.mem_or_eq_of_mem_set hb with hb | rfl
    · exact wb2 b hb
    · exact hw1
  · have := putH_ok (n := 1) (h := HdM.z) (by omega) (by omega) (by decide)
    rw [this]
    simp [List.getD, List.getElem?_set_self (show 0 < S2.length by omega)]
  · have : (S2.set 0 (sealB 1 HdM.z.bytes)).getD 1 [] = zblk := by
      have := g2' 1 (by omega)
      simp only [List.getD_eq_getElem?_getD] at this ⊢
      rw [List.getElem?_set_ne (by omega)]; exact this
    rw [Nat.sub_zero, this]
    exact slot_z (Nat.le_refl _)
end Go.Cx
/-! A table behind changes (batch.Apply), in the program. -/
namespace Go.Cx
theorem mrg_fact {α β : Type} (ka : α → Blk) (kb : β → Blk) : ∀ (i : Nat) (t : List α) (j : Nat) (l : List β), ∀ p ∈ mrg ka kb i t j l,
    (∀ n x, p.1 = some (n, x) → ∃ m, n = i + m ∧ t[m]? = some x) ∧ (∀ n y, p.2 = some (n, y) → ∃ m, n = j + m ∧ l[m]? = some y) ∧ ¬ (p.1 = none ∧ p.2 = none) := by
  have up : ∀ {γ : Type} {i n : Nat} {x z : γ} {s : List γ}, (∃ m, n = i + 1 + m ∧ s[m]? = some x) → ∃ m, n = i + m ∧ (z :: s)[m]? = some x := fun ⟨m, h1, h2⟩ => ⟨m + 1, by omega, by simpa using h2⟩
  intro i t j l
  induction i, t, j, l using mrg.induct (ka := ka) (kb := kb) with
  | case1 => intro p hp; rw [mrg] at hp; cases hp
  | case2 i j x t ih =>
    intro p hp
    rw [mrg] at hp
    rcases List.mem_cons.1 hp with rfl | hp
    · exact ⟨fun n y h => by cases h; exact ⟨0, rfl, rfl⟩, fun n y h => by simp at h, by simp⟩
    · obtain ⟨h1, h2, h3⟩ := ih p hp
      exact ⟨fun n y h => up (h1 n y h), h2, h3⟩
  | case3 i j y l ih =>
    intro p hp
    rw [mrg] at hp
    rcases List.mem_cons.1 hp with rfl | hp
    · exact ⟨fun n y h => by simp at h, fun n y h => by cases h; exact ⟨0, rfl, rfl⟩, by simp⟩
    · obtain ⟨h1, h2, h3⟩ := ih p hp
      exact ⟨h1, fun n y h => up (h2 n y h), h3⟩
  | case4 i x t j y l hk ih =>
    intro p hp
    rw [mrg, if_pos hk] at hp
    rcases List.mem_cons.1 hp with rfl | hp
    · exact ⟨fun n y h => by cases h; exact ⟨0, rfl, rfl⟩, fun n y h => by simp at h, by simp⟩
    · obtain ⟨h1, h2, h3⟩ := ih p hp
      exact ⟨fun n y h => up (h1 n y h), h2, h3⟩
  | case5 i x t j y l hk he ih =>
    intro p hp
    rw [mrg, if_neg hk, if_pos he] at hp
    rcases List.mem_cons.1 hp with rfl | hp
    · exact ⟨fun n y h => by cases h; exact ⟨0, rfl, rfl⟩, fun n y h => by cases h; exact ⟨0, rfl, rfl⟩, by simp⟩
    · obtain ⟨h1, h2, h3⟩ := ih p hp
      exact ⟨fun n y h => up (h1 n y h), fun n y h => up (h2 n y h), h3⟩
  | case6 i x t j y l hk he ih =>
    intro p hp
    rw [mrg, if_neg hk, if_neg he] at hp
    rcases List.mem_cons.1 hp with rfl | hp
    · exact ⟨fun n y h => by simp at h, fun n y h => by cases h; exact ⟨0, rfl, rfl⟩, by simp⟩
    · obtain ⟨h1, h2, h3⟩ := ih p hp
      exact ⟨h1, fun n y h => up (h2 n y h), h3⟩
/-- What Apply lays for what is handed out. -/
def outA : Option (Nat × RwV) × Option (Nat × ChV) → Tab
  | (_, some (_, y)) => if y.gone then [] else [(y.key, y.s.b)]
  | (some (_, x), none) => [x.m]
  | (none, none) => []
theorem applyM_nil (t : Tab) : applyM t [] = t := by cases t <;> rw [applyM]
theorem out_apply : ∀ (i : Nat) (t : List RwV) (j : Nat) (l : List ChV), ((mrg rwKey chKey i t j l).map outA).flatten = applyM (t.map RwV.m) (l.map ChV.m) := by
  intro i t j l
  induction i, t, j, l using mrg.induct (ka := rwKey) (kb := chKey) with
  | case1 => rw [mrg]; simp [applyM]
  | case2 i j x t ih =>
    rw [mrg, List.map_cons, List.flatten_cons, ih]
    simp only [List.map_nil, applyM_nil, List.map_cons]; rfl
  | case3 i j y l ih =>
    rw [mrg, List.map_cons, List.flatten_cons, ih]
    simp only [List.map_nil, List.map_cons]
    rw [applyM]
    simp only [outA, ChV.m]
    by_cases hg : y.gone = true <;> simp [hg]
  | case4 i x t j y l hk ih =>
    rw [mrg, if_pos hk, List.map_cons, List.flatten_cons, ih]
    simp only [List.map_cons]
    rw [applyM, if_pos (show klt x.m.1 y.m.key = true from hk)]; rfl
  | case5 i x t j y l hk he ih =>
    rw [mrg, if_neg hk, if_pos he, List.map_cons, List.flatten_cons, ih]
    simp only [List.map_cons]
    rw [applyM, if_neg (show ¬ klt x.m.1 y.m.key = true from hk), if_pos (show x.m.1 = y.m.key from he)]
    simp only [outA, ChV.m]
    by_cases hg : y.gone = true <;> simp [hg]
  | case6 i x t j y l hk he ih =>
    rw [mrg, if_neg hk, if_neg he, List.map_cons, List.flatten_cons, ih]
    simp only [List.map_cons]
    rw [applyM, if_neg (show ¬ klt x.m.1 y.m.key = true from hk), if_neg (show ¬ x.m.1 = y.m.key from he)]
    simp only [outA, ChV.m]
    by_cases hg : y.gone = true <;> simp [hg]
theorem mrg_len {α β : Type} (ka : α → Blk) (kb : β → Blk) : ∀ (i : Nat) (t : List α) (j : Nat) (l : List β), (mrg ka kb i t j l).length ≤ t.length + l.length := by
  intro i t j l
  induction i, t, j, l using mrg.induct (ka := ka) (kb := kb) with
  | case1 => rw [mrg]; simp
  | case2 i j x t ih => rw [mrg]; simp at ih ⊢; omega
  | case3 i j y l ih => rw [mrg]; simp at ih ⊢; omega
  | case4 i x t j y l hk ih => rw [mrg, if_pos hk]; simp at ih ⊢; omega
  | case5 i x t j y l hk he ih => rw [mrg, if_neg hk, if_pos he]; simp at ih ⊢; omega
  | case6 i x t j y l hk he ih => rw [mrg, if_neg hk, if_neg he]; simp at ih ⊢; omega
theorem valR_snoc {e c : Nat} {a : Option Addr} {b k : Blk} {l : List RwV} (h : PH) (s : (valR l).ok h) (t : (own e 1 a b.length c (cb b)).ok h) : (valR (l ++ [⟨k, ⟨a, b, c⟩⟩])).ok h := valR_ok.2 fun r hr => by
  rcases List.mem_append.1 hr with hr | hr
  · exact valR_ok.1 s r hr
  · obtain rfl := List.mem_singleton.1 hr
    exact own_SlB t
end Go.Cx
namespace Go.Proofs.Ytlckhaodecdbbaa
open Go.Cx
attribute [local irreducible] Go.Cx.CX Go.Cx.CC Go.Cx.CQ Go.Cx.PS Go.Cx.Ctr Go.Cx.CH
set_option maxRecDepth 10000
theorem clone_c (s : SlB) (hl : s.b.length ≤ 1073741824) : Ctr Try.prog 126 [.slice s.a s.b.length s.c] [] (fun x => s.ok x) (fun v M => ∃ a c, v = .slice a s.b.length c ∧ M = [own 5 1 a s.b.length c (cb s.b)]) := by
  obtain ⟨a, b, c⟩ := s
  dsimp only at hl ⊢
  refine Ctr.intro Try.func126 rfl Try.ntmps126 rfl fun x w hp => ?_
  cases a with
  | none =>
    obtain ⟨h1, h2⟩ := hp.nil rfl
    dsimp only at h1 h2
    subst h1; subst h2
    refine wk ?_
    refine CQ.ownNil 5 1 ?_
    (apply CQ.end1; (· rfl); (· exact .tmp rfl))
    · exact ⟨none, 0, rfl, rfl⟩
    · exact selA
  | some ad =>
    refine wk ?_
    refine CX.buildSl0 ?_
    intro q
    refine wk ?_
    refine CX.append (m := b.length) (news := cb b) rfl rfl rfl (by first | exact pickA | exact updA) (rdS_of (rdx_ex (by first | exact pickA | exact updA) hp.r) rfl) (by omega) (fun h => by cases h) ?_
    intro a' c'
    rw [List.nil_append, Nat.zero_add]
    refine wk ?_
    (apply CQ.end1; (· rfl); (· exact .tmp rfl))
    · exact ⟨a', c', rfl, rfl⟩
    · exact selA
theorem mergC_c (t u : Value) (ht : t.cells = #[t]) (hu : u.cells = #[u]) : Ctr Try.prog 135 [t, u, .func (.func 124) #[] #[], .func (.func 136) #[] #[]] [] (fun _ => True)
    (fun v M => ∃ b1 b2 b3 b4, v = .func (.func 159) #[] #[.pointer (some ⟨b1, 0, none⟩), .pointer (some ⟨b2, 0, none⟩), .pointer (some ⟨b3, 0, none⟩), .pointer (some ⟨b4, 0, none⟩)] ∧
      M = [bk b1 99 [t], bk b2 92 [u], bk b3 162 [.func (.func 124) #[] #[]], bk b4 175 [.func (.func 136) #[] #[]]]) := by
  refine Ctr.intro Try.func135 rfl Try.ntmps135 rfl fun x w hp => ?_
  refine wk ?_
  (apply CX.box; (· rfl); (· rfl); intro b1)
  (apply CX.box; (· rfl); (· rfl); intro b2)
  rw [ht, hu]
  (apply CX.box; (· rfl); (· rfl); intro b3)
  (apply CX.box; (· rfl); (· rfl); intro b4)
  refine wk ?_
  (apply CQ.end1; (· rfl); (· exact .tmp rfl))
  · exact ⟨b1, b2, b3, b4, rfl, rfl⟩
  · exact selA
def AppliedP (t : List RwV) (l : List ChV) (v : Value) (M : List Assn) : Prop :=
  (¬ (MayR (t.map RwV.m) ∧ MayC (l.map ChV.m)) → v = .tuple #[.slice none 0 0, .int .i64 2] ∧ M = []) ∧
  (MayR (t.map RwV.m) ∧ MayC (l.map ChV.m) → ∃ a c r, r.map RwV.m = applyM (t.map RwV.m) (l.map ChV.m) ∧ v = .tuple #[.slice a r.length c, .int .i64 0] ∧ M = [tabA a r] ∧ (a = none → r.length = 0 ∧ c = 0) ∧ r.length ≤ c ∧ r.length ≤ t.length + l.length)
theorem apply_c (t : List RwV) (l : List ChV) (ht : t.length ≤ 1073741824) (hl : l.length ≤ 1073741824) (a b : Option Addr) (ca cb' : Nat) (hca : t.length ≤ ca) (hcb : l.length ≤ cb') :
    Ctr Try.prog 69 [.slice a t.length ca, .slice b l.length cb'] [] (fun x => rwAt a t x ∧ chAt b l x) (AppliedP t l) := by
  unfold AppliedP
  refine Ctr.introM Try.func69 rfl Try.ntmps69 rfl fun x w hp => ?_
  obtain ⟨hpa, hpb⟩ := hp
  refine wk ?_
  refine CX.callA (mayR_c t (by omega) a ca) ?_ (hpre := by exact rw_ex (by first | exact pickA | exact updA) hpa)
  by_cases hmt : MayR (t.map RwV.m)
  rotate_left
  · rw [decide_eq_false hmt]
    rintro _ _ ⟨rfl, rfl⟩
    refine wk ?_
    refine CQ.endM2 rfl (.tmp rfl) (.tmp rfl) ⟨fun _ => ⟨rfl, rfl⟩, fun h => absurd h.1 hmt⟩ (by exact selA)
  rw [decide_eq_true hmt]
  rintro _ _ ⟨rfl, rfl⟩
  refine wk ?_
  refine CX.callA (mayC_c l (by omega) b cb') ?_ (hpre := by exact ch_ex (by first | exact pickA | exact updA) hpb)
  by_cases hml : MayC (l.map ChV.m)
  rotate_left
  · rw [decide_eq_false hml]
    rintro _ _ ⟨rfl, rfl⟩
    refine wk ?_
    refine CQ.endM2 rfl (.tmp rfl) (.tmp rfl) ⟨fun _ => ⟨rfl, rfl⟩, fun h => absurd h.2 hml⟩ (by exact selA)
  rw [decide_eq_true hml]
  rintro _ _ ⟨rfl, rfl⟩
  refine wk ?_
  refine CX.allocZ [.slice none 0 0] ?_ (hv := rfl)
  intro b6
  refine wk ?_
  refine CX.callA (mergC_c (.slice a t.length ca) (.slice b l.length cb') rfl rfl) ?_
  rintro _ _ ⟨b1, b2, b3, b4, rfl, rfl⟩
  refine wk ?_
  refine CC.ownNil 105 2 ?_
  refine CC.give (valR []) (fun _ => valR_ok.2 fun _ h => by cases h) ?_
  have hLl := mrg_len rwKey chKey 0 t 0 l
  have hfact := mrg_fact rwKey chKey 0 t 0 l
  have hall := out_apply 0 t 0 l
  have It := itC_c t l ht hl a b ca cb' hca hcb b1 b2 b3 b4
  generalize mrg rwKey chKey 0 t 0 l = Lm at *
  refine CC.range It rfl (fun k M => ∃ a1 c1 r, M = [bk b6 99 [.slice a1 r.length c1], own 105 2 a1 r.length c1 (rows RwV.cells r), valR r] ∧ r.map RwV.m = ((Lm.take k).map outA).flatten ∧ r.length ≤ k)
    (M0 := [bk b6 99 [.slice none 0 0], own 105 2 none 0 0 [], valR []]) ⟨none, 0, [], rfl, rfl, Nat.le_refl _⟩ (by exact selA) (fun y hy => ⟨rw_ex (by first | exact pickA | exact updA) hpa y hy, ch_ex (by first | exact pickA | exact updA) hpb y hy⟩) (fun v hv => by
      obtain ⟨p, _, rfl⟩ := List.mem_map.1 hv; rfl) ?_ ?_
  · rintro ly ⟨st, pd, rfn, rtm, rps, ras, rbd, rdf⟩ k v M y e1 hk ⟨a1, c1, r, rfl, hr, hrk⟩ hst hpd hy
    dsimp only at hst hpd
    subst hst; subst hpd
    rw [List.getElem?_map, Option.map_eq_some_iff] at hk
    obtain ⟨p, hk, rfl⟩ := hk
    have hkl : k < Lm.length := (List.getElem?_eq_some_iff.1 hk).1
    have hpL : p ∈ Lm := List.mem_of_getElem? hk
    obtain ⟨hf1, hf2, hf3⟩ := hfact p hpL
    have hout : ((Lm.take (k + 1)).map outA).flatten = ((Lm.take k).map outA).flatten ++ outA p := by
      rw [List.take_succ_eq_append_getElem hkl, (List.getElem?_eq_some_iff.1 hk).2]; simp
    have hya : rwAt a t y := rw_ex (show Pick (exact x) _ _ from by first | exact pickA | exact updA) hpa y hy
    have hyb : chAt b l y := ch_ex (show Pick (exact x) _ _ from by first | exact pickA | exact updA) hpb y hy
    clear hy
    obtain ⟨p1, p2⟩ := p
    cases p2 with
    | none =>
      cases p1 with
      | none => exact absurd ⟨rfl, rfl⟩ hf3
      | some q =>
        obtain ⟨n, z⟩ := q
        obtain ⟨m, rfl, hz⟩ := hf1 n z rfl
        obtain ⟨hm, rfl⟩ := List.getElem?_eq_some_iff.1 hz
        obtain ⟨ga, oa, rfl⟩ := rwAt_some hya (by omega)
        have hval : (t[m]).s.b.length ≤ 1073741824 := by
          have := (hmt.2 (t[m]).m (List.mem_map_of_mem (List.getElem_mem hm))).2.2
          have e : (t[m]).m.2.length = (t[m]).s.b.length := rfl
          omega
        have hzs := hya.2 t[m] (List.getElem_mem hm)
        simp only [encM, Option.bind_some, Option.bind_none, atP_some, Nat.zero_add, putEs]
        refine wqk ?_
        refine CQ.begin rfl (by first | exact pickA | exact updA) ?_
        refine wqk ?_
        refine CR.draw [(0, 1), (1, 0), (2, 0), (3, 0), (4, 1), (5, 0), (6, 0), (7, 0), (8, 1), (9, 2), (10, 0), (11, 2), (12, 2), (13, 3)] mixed rfl (by kernel_rfl) (by kernel_rfl) [bk b6 99 [.slice a1 r.length c1], exact y] ?_
        refine hwk ?_
        (apply CH.read; (· rfl); (· apply PS.load (v := sv (t[m]).key); (· rfl); (· rfl); (· exact hya.cell (by first | exact pickA | exact updA) hm 0 rfl)); (· exact selA))
        refine hwk ?_
        (apply CH.read; (· rfl); (· apply PS.load (v := .slice (t[m]).s.a (t[m]).s.b.length (t[m]).s.c); (· rfl); (· rfl); (· exact hya.cell (by first | exact pickA | exact updA) hm 1 rfl)); (· exact selA))
        refine CH.chain rfl fun K hK => ?_
        refine CX.callA (clone_c (t[m]).s hval) ?_ (hpre := by exact fun z hz => (hzs).mono (Pick.ok (show Pick (exact y) _ _ from by first | exact pickA | exact updA) hz))
        rintro _ _ ⟨a2, c2, rfl, rfl⟩
        (refine CX.nil ?_; refine CQ.thenK ?_; apply hK; (· exact selA); clear hK K)
        refine CH.pure rfl (PS.build (vs := [(0, sv (t[m]).key), (1, .slice a2 (t[m]).s.b.length c2)]) (out := [sv (t[m]).key, .slice a2 (t[m]).s.b.length c2]) rfl rfl rfl) ?_
        refine CH.chain rfl fun K hK => ?_
        refine CX.buildSl (parts := [(0, _)]) (vs := [(0, .agg #[sv (t[m]).key, .slice a2 (t[m]).s.b.length c2])]) (out := [sv (t[m]).key, .slice a2 (t[m]).s.b.length c2]) rfl rfl (by decide) (by simp [fillL, Value.cells, setL]) fun bq => ?_
        (refine CX.nil ?_; refine CQ.thenK ?_; apply hK; (· exact selA); clear hK K)
        refine CH.chain rfl fun K hK => ?_
        refine CX.append (m := 1) (news := [sv (t[m]).key, .slice a2 (t[m]).s.b.length c2]) rfl rfl rfl (by first | exact pickA | exact updA) (RdS.pick (b := bq) (o := 0) (by first | exact pickA | exact updA) rfl (one_all rfl) rfl) (by omega) (fun h => by cases h) ?_
        intro a3 c3
        refine CX.merge (valR (r ++ [⟨(t[m]).key, ⟨a2, (t[m]).s.b, c2⟩⟩])) valR_snoc ?_
        (refine CX.nil ?_; refine CQ.thenK ?_; apply hK; (· exact selA); clear hK K)
        refine CH.tail rfl rfl fun K hK => ?_
        refine CX.storeA ?_
        (refine CX.nil ?_; refine CQ.thenK ?_; apply hK; clear hK K)
        refine hwk ?_
        refine wqk ?_
        refine CQ.endRound (by first | exact pickA | exact updA) ⟨rfl, [bk b6 99 [.slice a3 (r.length + 1) c3], own 105 2 a3 (r.length + 1) c3 (rows RwV.cells r ++ [sv (t[m]).key, .slice a2 (t[m]).s.b.length c2]), valR (r ++ [⟨(t[m]).key, ⟨a2, (t[m]).s.b, c2⟩⟩])], rfl, a3, c3, r ++ [⟨(t[m]).key, ⟨a2, (t[m]).s.b, c2⟩⟩], by rw [List.length_append, rows_append]; rfl, by rw [hout, List.map_append, hr]; simp [outA, RwV.m], by simp only [List.length_append, List.length_singleton]; omega⟩ (by exact selA)
    | some q =>
      obtain ⟨n, z⟩ := q
      obtain ⟨m, rfl, hz⟩ := hf2 n z rfl
      obtain ⟨hm, rfl⟩ := List.getElem?_eq_some_iff.1 hz
      obtain ⟨gb, ob', rfl⟩ := chAt_some hyb (by omega)
      have hval : (l[m]).s.b.length ≤ 1073741824 := by
        have := (hml.2 (l[m]).m (List.mem_map_of_mem (List.getElem_mem hm))).v
        have e : (l[m]).m.val.length = (l[m]).s.b.length := rfl
        omega
      have hzs := hyb.2 l[m] (List.getElem_mem hm)
      simp only [encM, Option.bind_some, atP_some, Nat.zero_add, putEs]
      generalize (p1.bind fun q => atP a (q.1 * 2)) = pp
      by_cases hg : (l[m]).gone = true
      · refine wqk ?_
        refine CQ.begin rfl (by first | exact pickA | exact updA) ?_
        refine wqk ?_
        refine CX.loadA (.bool true) (hyb.cell (v := .bool true) (by first | exact pickA | exact updA) hm 2 (by rw [← hg]; rfl)) ?_
        refine wqk ?_
        refine CQ.endRound (by first | exact pickA | exact updA) ⟨rfl, [bk b6 99 [.slice a1 r.length c1], own 105 2 a1 r.length c1 (rows RwV.cells r), valR r], rfl, a1, c1, r, rfl, by rw [hout, hr]; simp [outA, hg], by omega⟩ (by exact selA)
      · have hg' : (l[m]).gone = false := by simpa using hg
        refine wqk ?_
        refine CQ.begin rfl (by first | exact pickA | exact updA) ?_
        refine wqk ?_
        refine CX.loadA (.bool false) (hyb.cell (v := .bool false) (by first | exact pickA | exact updA) hm 2 (by rw [← hg']; rfl)) ?_
        refine wqk ?_
        refine CR.draw [(0, 1), (1, 0), (2, 0), (3, 0), (4, 1), (5, 0), (6, 0), (7, 0), (8, 1), (9, 2), (10, 0), (11, 2), (12, 2), (13, 3)] mixed rfl (by kernel_rfl) (by kernel_rfl) [bk b6 99 [.slice a1 r.length c1], exact y] ?_
        refine hwk ?_
        (apply CH.read; (· rfl); (· apply PS.load (v := sv (l[m]).key); (· rfl); (· rfl); (· exact hyb.cell (by first | exact pickA | exact updA) hm 0 rfl)); (· exact selA))
        refine hwk ?_
        (apply CH.read; (· rfl); (· apply PS.load (v := .slice (l[m]).s.a (l[m]).s.b.length (l[m]).s.c); (· rfl); (· rfl); (· exact hyb.cell (by first | exact pickA | exact updA) hm 1 rfl)); (· exact selA))
        refine CH.chain rfl fun K hK => ?_
        refine CX.callA (clone_c (l[m]).s hval) ?_ (hpre := by exact fun z hz => (hzs).mono (Pick.ok (show Pick (exact y) _ _ from by first | exact pickA | exact updA) hz))
        rintro _ _ ⟨a2, c2, rfl, rfl⟩
        (refine CX.nil ?_; refine CQ.thenK ?_; apply hK; (· exact selA); clear hK K)
        refine CH.pure rfl (PS.build (vs := [(0, sv (l[m]).key), (1, .slice a2 (l[m]).s.b.length c2)]) (out := [sv (l[m]).key, .slice a2 (l[m]).s.b.length c2]) rfl rfl rfl) ?_
        refine CH.chain rfl fun K hK => ?_
        refine CX.buildSl (parts := [(0, _)]) (vs := [(0, .agg #[sv (l[m]).key, .slice a2 (l[m]).s.b.length c2])]) (out := [sv (l[m]).key, .slice a2 (l[m]).s.b.length c2]) rfl rfl (by decide) (by simp [fillL, Value.cells, setL]) fun bq => ?_
        (refine CX.nil ?_; refine CQ.thenK ?_; apply hK; (· exact selA); clear hK K)
        refine CH.chain rfl fun K hK => ?_
        refine CX.append (m := 1) (news := [sv (l[m]).key, .slice a2 (l[m]).s.b.length c2]) rfl rfl rfl (by first | exact pickA | exact updA) (RdS.pick (b := bq) (o := 0) (by first | exact pickA | exact updA) rfl (one_all rfl) rfl) (by omega) (fun h => by cases h) ?_
        intro a3 c3
        refine CX.merge (valR (r ++ [⟨(l[m]).key, ⟨a2, (l[m]).s.b, c2⟩⟩])) valR_snoc ?_
        (refine CX.nil ?_; refine CQ.thenK ?_; apply hK; (· exact selA); clear hK K)
        refine CH.tail rfl rfl fun K hK => ?_
        refine CX.storeA ?_
        (refine CX.nil ?_; refine CQ.thenK ?_; apply hK; clear hK K)
        refine hwk ?_
        refine wqk ?_
        refine CQ.endRound (by first | exact pickA | exact updA) ⟨rfl, [bk b6 99 [.slice a3 (r.length + 1) c3], own 105 2 a3 (r.length + 1) c3 (rows RwV.cells r ++ [sv (l[m]).key, .slice a2 (l[m]).s.b.length c2]), valR (r ++ [⟨(l[m]).key, ⟨a2, (l[m]).s.b, c2⟩⟩])], rfl, a3, c3, r ++ [⟨(l[m]).key, ⟨a2, (l[m]).s.b, c2⟩⟩], by rw [List.length_append, rows_append]; rfl, by rw [hout, List.map_append, hr]; simp [outA, RwV.m, hg'], by simp only [List.length_append, List.length_singleton]; omega⟩ (by exact selA)
  · rintro D M ⟨a1, c1, r, rfl, hr, hrk⟩
    rw [List.length_map] at hr hrk
    rw [List.take_length, hall] at hr
    refine wdk ?_
    refine CQ.fact (own_none (e := 105) (sz := 2) (by first | exact pickA | exact updA)) ?_
    rintro ⟨hn1, hn2, hn3⟩
    refine CQ.merge (tabA a1 r) own_tab ?_
    refine CQ.endD2 rfl (by first | exact pickA | exact updA) (.tmp rfl) (.tmp rfl) ⟨fun h => absurd ⟨hmt, hml⟩ h, fun _ => ⟨a1, c1, r, hr, rfl, rfl, hn1, hn2, by omega⟩⟩ (by exact selA)
end Go.Proofs.Ytlckhaodecdbbaa
