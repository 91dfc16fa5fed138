/- Part K6: Rk, Rl, Dn, L4n, L4p, Jd, Je, Jf, Jg, Jh, Jk, Sv, Pa, L6, L6n, Rh, Js, Pb. -/
import Derived.Test.YtlckhaodecdbbaaGreatDoorK5
import Derived.Test.YtlckhaodecdbbaaGreatDoorK4
import Derived.Test.YtlckhaodecdbbaaGreatDoorK3
set_option linter.unusedVariables false
set_option linter.unusedSimpArgs false
/-! The document's disk: it does what the words of DkM say, too. -/
namespace Go.Proofs.YtlckhaodecdbbaaGreatDoor
open Go.Cx
attribute [local irreducible] Go.Cx.CX Go.Cx.CC Go.Cx.CQ Go.Cx.PS Go.Cx.Ctr Go.Cx.CH
set_option maxRecDepth 10000

@[irreducible] def rdisk (p : Nat) (D : DS) : Assn :=
  exA (X := Nat × Nat × Option Addr × Nat) (fun _ => True) fun q =>
    [bk p 112 [.slice (some ⟨q.1, 0, none⟩) D.sure.length q.2.1, .slice q.2.2.1 D.loose.length q.2.2.2, .int .i64 D.left, .bool D.dark, .int .i64 (D.steps : Int)],
     own 59 128 (some ⟨q.1, 0, none⟩) D.sure.length q.2.1 (flat D.sure), own 115 129 q.2.2.1 D.loose.length q.2.2.2 (flatL D.loose)]
theorem rdisk_eq (p : Nat) (D : DS) : rdisk p D = exA (X := Nat × Nat × Option Addr × Nat) (fun _ => True) fun q =>
    [bk p 112 [.slice (some ⟨q.1, 0, none⟩) D.sure.length q.2.1, .slice q.2.2.1 D.loose.length q.2.2.2, .int .i64 D.left, .bool D.dark, .int .i64 (D.steps : Int)],
     own 59 128 (some ⟨q.1, 0, none⟩) D.sure.length q.2.1 (flat D.sure), own 115 129 q.2.2.1 D.loose.length q.2.2.2 (flatL D.loose)] := by unfold rdisk; rfl

theorem rasks_c (p : Nat) (D : DS) (n : Int) : Ctr Tryz.prog 171 [.pointer (some ⟨p, 0, none⟩), .int .i64 n] [rdisk p D] (fun _ => True) (fun v M => v = .int .i64 (D.lit n) ∧ M = [rdisk p D]) := by
  obtain ⟨S, l, left, steps, dark⟩ := D
  refine Ctr.intro Tryz.func171 rfl Tryz.ntmps171 rfl fun x w hp => ?_
  (refine CC.openL (rdisk_eq p _) (by first | exact pickA | exact updA) ?_; rintro ⟨sb, sc, la, lc⟩ -)
  cases dark
  · by_cases h1 : n < 0
    · refine wk ?_
      (refine CQ.shutL (rdisk_eq p ⟨S, l, left, steps, false⟩) (_, _, _, _) trivial (by exact selA) ?_)
      ((apply CQ.end1; (· rfl); (· exact .tmp rfl)); (· exact ⟨by simp [DS.lit, DS.there, errOf]; omega, rfl⟩); (· exact selA))
    by_cases h2 : (S.length : Int) ≤ n
    · refine wk ?_
      (refine CQ.shutL (rdisk_eq p ⟨S, l, left, steps, false⟩) (_, _, _, _) trivial (by exact selA) ?_)
      ((apply CQ.end1; (· rfl); (· exact .tmp rfl)); (· exact ⟨by simp [DS.lit, DS.there, errOf]; omega, rfl⟩); (· exact selA))
    · refine wk ?_
      (refine CQ.shutL (rdisk_eq p ⟨S, l, left, steps, false⟩) (_, _, _, _) trivial (by exact selA) ?_)
      ((apply CQ.end1; (· rfl); (· exact .tmp rfl)); (· exact ⟨by simp [DS.lit, DS.there, errOf]; omega, rfl⟩); (· exact selA))
  · refine wk ?_
    (refine CQ.shutL (rdisk_eq p ⟨S, l, left, steps, true⟩) (_, _, _, _) trivial (by exact selA) ?_)
    ((apply CQ.end1; (· rfl); (· exact .tmp rfl)); (· exact ⟨rfl, rfl⟩); (· exact selA))
theorem rstep_c (p : Nat) (D : DS) {N : Nat} (h : D.wf N) (hN : N < 1000000) : Ctr Tryz.prog 172 [.pointer (some ⟨p, 0, none⟩)] [rdisk p D] (fun _ => True) (fun v M => v = .int .i64 D.step.1 ∧ M = [rdisk p D.step.2]) := by
  have hl0 := h.left0
  have hl1 := h.left1
  have hs := h.steps
  obtain ⟨S, l, left, steps, dark⟩ := D
  simp only at hl0 hl1 hs
  refine Ctr.intro Tryz.func172 rfl Tryz.ntmps172 rfl fun x w hp => ?_
  (refine CC.openL (rdisk_eq p _) (by first | exact pickA | exact updA) ?_; rintro ⟨sb, sc, la, lc⟩ -)
  by_cases h1 : left = 1
  · subst h1
    refine wk ?_
    (refine CQ.shutL (rdisk_eq p ⟨S, l, 1, steps, true⟩) (_, _, _, _) trivial (by exact selA) ?_)
    ((apply CQ.end1; (· rfl); (· exact .tmp rfl)); (· exact ⟨rfl, rfl⟩); (· exact selA))
  · have e : DS.step ⟨S, l, left, steps, dark⟩ = (0, ⟨S, l, max (left - 1) 0, steps + 1, dark⟩) := by simp [DS.step, h1]
    rw [e]
    by_cases h2 : 1 < left
    · have e2 : max (left - 1) 0 = left - 1 := by omega
      rw [e2]
      refine wk ?_
      (refine CQ.shutL (rdisk_eq p ⟨S, l, left - 1, steps + 1, dark⟩) (_, _, _, _) trivial (by exact selA) ?_)
      ((apply CQ.end1; (· rfl); (· exact .tmp rfl)); (· exact ⟨rfl, rfl⟩); (· exact selA))
    · have e2 : max (left - 1) 0 = left := by omega
      rw [e2]
      refine wk ?_
      (refine CQ.shutL (rdisk_eq p ⟨S, l, left, steps + 1, dark⟩) (_, _, _, _) trivial (by exact selA) ?_)
      ((apply CQ.end1; (· rfl); (· exact .tmp rfl)); (· exact ⟨rfl, rfl⟩); (· exact selA))
theorem rblocks_c (p : Nat) (D : DS) : Ctr Tryz.prog 145 [.pointer (some ⟨p, 0, none⟩)] [rdisk p D] (fun _ => True) (fun v M => v = .int .i64 D.sure.length ∧ M = [rdisk p D]) := by
  refine Ctr.intro Tryz.func145 rfl Tryz.ntmps145 rfl fun x w hp => ?_
  (refine CC.openL (rdisk_eq p _) (by first | exact pickA | exact updA) ?_; rintro ⟨sb, sc, la, lc⟩ -)
  refine wk ?_
  (refine CQ.shutL (rdisk_eq p D) (_, _, _, _) trivial (by exact selA) ?_)
  ((apply CQ.end1; (· rfl); (· exact .tmp rfl)); (· exact ⟨rfl, rfl⟩); (· exact selA))
theorem rdark_c (p : Nat) (D : DS) : Ctr Tryz.prog 24 [.pointer (some ⟨p, 0, none⟩)] [rdisk p D] (fun _ => True) (fun v M => v = .bool D.dark ∧ M = [rdisk p D]) := by
  refine Ctr.intro Tryz.func24 rfl Tryz.ntmps24 rfl fun x w hp => ?_
  (refine CC.openL (rdisk_eq p _) (by first | exact pickA | exact updA) ?_; rintro ⟨sb, sc, la, lc⟩ -)
  refine wk ?_
  (refine CQ.shutL (rdisk_eq p D) (_, _, _, _) trivial (by exact selA) ?_)
  ((apply CQ.end1; (· rfl); (· exact .tmp rfl)); (· exact ⟨rfl, rfl⟩); (· exact selA))
theorem rarm_c (p : Nat) (D : DS) (n : Int) (hlen : 0 < D.sure.length) : Ctr Tryz.prog 22 [.pointer (some ⟨p, 0, none⟩), .int .i64 n] [rdisk p D] (fun _ => True) (fun v M => v = .int .i64 (D.arm n).1 ∧ M = [rdisk p (D.arm n).2]) := by
  obtain ⟨S, l, left, steps, dark⟩ := D
  have h0 : DS.lit ⟨S, l, left, steps, false⟩ 0 = 0 := by
    have hl : 0 < S.length := hlen
    simp only [DS.lit, DS.there, errOf, Bool.false_eq_true, if_false]
    rw [if_pos ⟨by omega, by omega⟩]
  refine Ctr.intro Tryz.func22 rfl Tryz.ntmps22 rfl fun x w hp => ?_
  (refine CC.openL (rdisk_eq p _) (by first | exact pickA | exact updA) ?_; rintro ⟨sb, sc, la, lc⟩ -)
  cases dark
  · by_cases h1 : n < 0
    · have e : DS.arm ⟨S, l, left, steps, false⟩ n = (2, ⟨S, l, left, steps, false⟩) := by simp [DS.arm, h0, h1]
      rw [e]
      refine wk ?_
      (refine CQ.shutL (rdisk_eq p ⟨S, l, left, steps, false⟩) (_, _, _, _) trivial (by exact selA) ?_)
      ((apply CQ.end1; (· rfl); (· exact .tmp rfl)); (· exact ⟨rfl, rfl⟩); (· exact selA))
    · have e : DS.arm ⟨S, l, left, steps, false⟩ n = (0, ⟨S, l, n, steps, false⟩) := by simp [DS.arm, h0, h1]
      rw [e]
      refine wk ?_
      (refine CQ.shutL (rdisk_eq p ⟨S, l, n, steps, false⟩) (_, _, _, _) trivial (by exact selA) ?_)
      ((apply CQ.end1; (· rfl); (· exact .tmp rfl)); (· exact ⟨rfl, rfl⟩); (· exact selA))
  · have e : DS.arm ⟨S, l, left, steps, true⟩ n = (9, ⟨S, l, left, steps, true⟩) := by simp [DS.arm, DS.lit]
    rw [e]
    refine wk ?_
    (refine CQ.shutL (rdisk_eq p ⟨S, l, left, steps, true⟩) (_, _, _, _) trivial (by exact selA) ?_)
    ((apply CQ.end1; (· rfl); (· exact .tmp rfl)); (· exact ⟨rfl, rfl⟩); (· exact selA))
theorem rsure_c (p : Nat) (D : DS) (n : Int) {N : Nat} (h : D.wf N) : Ctr Tryz.prog 33 [.pointer (some ⟨p, 0, none⟩), .int .i64 n] [rdisk p D] (fun _ => True) (fun v M => v = .tuple #[.agg (cb (D.sureAt n).1).toArray, .int .i64 (D.sureAt n).2] ∧ M = [rdisk p D]) := by
  refine Ctr.intro Tryz.func33 rfl Tryz.ntmps33 rfl fun x w hp => ?_
  refine wk ?_
  (refine CX.allocZ (cb zblk) ?_; intro r)
  (refine CX.openL (rdisk_eq p _) (by first | exact pickA | exact updA) ?_; rintro ⟨sb, sc, la, lc⟩ -)
  by_cases h0 : D.there n = 0
  · obtain ⟨k, rfl, hk⟩ := there_ok h0
    have hb : WB D.sure[k] := h.wb _ (by simp)
    refine wk ?_
    (refine CX.indexA (k) ?_ ?_; (· exact hk))
    (apply CX.ps; (· apply PS.loadG (vs := cb D.sure[k]); (· rfl); (· rfl); (· exact CellsAt.own (by first | exact pickA | exact updA) (sure_at h hk)); (· exact hb.len)))
    (apply CX.storeAll; (· rfl); (· rfl); (· rfl); (· first | exact pickA | exact updA); (· exact hb.len); (· exact WB_z.len); (· exact one_cb _))
    refine wk ?_
    (refine CQ.shutL (rdisk_eq p D) (_, _, _, _) trivial (by exact selA) ?_)
    ((apply CQ.end2; (· rfl); (· exact .cells inferInstance rfl (CellsAt.all (by first | exact pickA | exact updA)) (hb.len)); (· exact .tmp rfl)); (· exact ⟨by simp [DS.sureAt, h0, hk], rfl⟩); (· exact selA))
  · have h2 : D.there n = 2 := by unfold DS.there errOf at h0 ⊢; split at h0; exact absurd rfl h0; rename_i hh; rw [if_neg hh]
    have hn : ¬ (0 ≤ n ∧ n < D.sure.length) := by intro hh; unfold DS.there errOf at h0; rw [if_pos hh] at h0; exact h0 rfl
    by_cases h1 : n < 0
    · refine wk ?_
      (apply CX.ps; (· apply PS.buildZ (vs := cb zblk); (· rfl); (· simp [cb_z, Value.cells])))
      refine wk ?_
      (apply CX.storeAll; (· rfl); (· rfl); (· rfl); (· first | exact pickA | exact updA); (· exact WB_z.len); (· exact WB_z.len); (· exact one_cb _))
      refine wk ?_
      (refine CQ.shutL (rdisk_eq p D) (_, _, _, _) trivial (by exact selA) ?_)
      ((apply CQ.end2; (· rfl); (· exact .cells inferInstance rfl (CellsAt.all (by first | exact pickA | exact updA)) (WB_z.len)); (· exact .tmp rfl)); (· exact ⟨by simp [DS.sureAt, h2], rfl⟩); (· exact selA))
    · have h3 : (D.sure.length : Int) ≤ n := by omega
      refine wk ?_
      (apply CX.ps; (· apply PS.buildZ (vs := cb zblk); (· rfl); (· simp [cb_z, Value.cells])))
      refine wk ?_
      (apply CX.storeAll; (· rfl); (· rfl); (· rfl); (· first | exact pickA | exact updA); (· exact WB_z.len); (· exact WB_z.len); (· exact one_cb _))
      refine wk ?_
      (refine CQ.shutL (rdisk_eq p D) (_, _, _, _) trivial (by exact selA) ?_)
      ((apply CQ.end2; (· rfl); (· exact .cells inferInstance rfl (CellsAt.all (by first | exact pickA | exact updA)) (WB_z.len)); (· exact .tmp rfl)); (· exact ⟨by simp [DS.sureAt, h2], rfl⟩); (· exact selA))
theorem rwrite_c (p : Nat) (D : DS) (n : Int) (b : Blk) (hb : WB b) {N : Nat} (h : D.wf N) (hN : N < 1000000) : Ctr Tryz.prog 146 [.pointer (some ⟨p, 0, none⟩), .int .i64 n, .agg (cb b).toArray] [rdisk p D] (fun _ => True) (fun v M => v = .int .i64 (D.write n b).1 ∧ M = [rdisk p (D.write n b).2]) := by
  have hlo := h.loose
  refine Ctr.intro Tryz.func146 rfl Tryz.ntmps146 rfl fun x w hp => ?_
  refine wk ?_
  (refine CX.boxA ?_; intro c)
  refine wk ?_
  refine CX.callA (rasks_c p D n) ?_
  rintro _ _ ⟨rfl, rfl⟩
  by_cases h0 : D.lit n = 0
  · have h1 : D.there n = 0 := by unfold DS.lit at h0; split at h0; cases h0; exact h0
    obtain ⟨k, rfl, hk⟩ := there_ok h1
    refine wk ?_
    refine CX.callA (rstep_c p D h hN) ?_
    rintro _ _ ⟨rfl, rfl⟩
    by_cases h2 : D.step.1 = 0
    · have e : D.write k b = (0, { D.step.2 with loose := D.step.2.loose ++ [(k, b)] }) := by simp [DS.write, h0, h2]
      have hlo' : D.step.2.loose.length ≤ N := by unfold DS.step; split <;> exact hlo
      refine wk ?_
      rw [e, h2]
      generalize D.step.2 = D' at hlo' ⊢
      (refine CC.openL (rdisk_eq p _) (by first | exact pickA | exact updA) ?_; rintro ⟨sb, sc, la, lc⟩ -)
      refine CC.draw [(0, 0), (1, 0), (2, 0), (3, 0), (4, 1), (5, 0), (6, 1), (7, 0), (8, 2), (9, 2), (10, 0), (11, 0), (12, 3)] mixed rfl (by kernel_rfl) (by kernel_rfl) [bk p 112 [.slice (some ⟨sb, 0, none⟩) D'.sure.length sc, .slice la D'.loose.length lc, .int .i64 D'.left, .bool D'.dark, .int .i64 (D'.steps : Int)], bk c 59 (cb b)] ?_
      refine hwk ?_
      (apply CH.read; (· rfl); (· apply PS.loadG (vs := cb b); (· rfl); (· rfl); (· exact CellsAt.all (by first | exact pickA | exact updA)); (· exact hb.len)); (· exact selA))
      (apply CH.pure; (· rfl); (· apply PS.build (vs := [(0, .int .i64 (k : Int)), (1, .agg (cb b).toArray)]); (· rfl); (· rfl); (· exact fill_put k b hb)))
      refine CH.chain rfl fun K hK => ?_
      apply CX.buildSl (vs := [(0, .agg (pc (k, b)).toArray)])
      · rfl
      · rfl
      · decide
      · exact fill_one (length_pc hb) (by simp)
      intro q
      (refine CX.nil ?_; refine CQ.thenK ?_; apply hK; (· exact selA); clear hK K)
      refine CH.chain rfl fun K hK => ?_
      apply CX.append (m := 1) (news := pc (k, b))
      · rfl
      · rfl
      · rfl
      · first | exact pickA | exact updA
      · exact RdS.pick (by first | exact pickA | exact updA) (length_pc hb) (one_pc _) (by rw [List.drop_zero, List.take_of_length_le (by rw [length_pc hb]; omega)])
      · omega
      · intro hh; cases hh
      intro la' lc'
      (refine CX.nil ?_; refine CQ.thenK ?_; apply hK; (· exact selA); clear hK K)
      refine hwk ?_
      refine CH.tail rfl rfl fun K hK => ?_
      refine CX.storeA ?_
      (refine CX.nil ?_; refine CQ.thenK ?_; apply hK; clear hK K)
      refine hwk ?_
      refine wk ?_
      have e5 : D'.loose.length + 1 = (D'.loose ++ [(k, b)]).length := by simp
      have e6 : flatL D'.loose ++ pc (k, b) = flatL (D'.loose ++ [(k, b)]) := by simp [flatL, rows]
      rw [e5, e6]
      (refine CQ.shutL (rdisk_eq p ({ D' with loose := D'.loose ++ [(k, b)] })) (sb, sc, la', lc') trivial (by exact selA) ?_)
      ((apply CQ.end1; (· rfl); (· exact .tmp rfl)); (· exact ⟨rfl, rfl⟩); (· exact selA))
    · have e : D.write k b = D.step := by simp [DS.write, h0, h2]
      refine wk ?_
      rw [e]
      ((apply CQ.end1; (· rfl); (· exact .tmp rfl)); (· exact ⟨rfl, rfl⟩); (· exact selA))
  · have e : D.write n b = (D.lit n, D) := by simp [DS.write, h0]
    refine wk ?_
    rw [e]
    ((apply CQ.end1; (· rfl); (· exact .tmp rfl)); (· exact ⟨rfl, rfl⟩); (· exact selA))
theorem rflush_c (p : Nat) (D : DS) {N : Nat} (h : D.wf N) (hN : N < 999999) : Ctr Tryz.prog 147 [.pointer (some ⟨p, 0, none⟩)] [rdisk p D] (fun _ => True) (fun v M => v = .int .i64 D.flush.1 ∧ M = [rdisk p D.flush.2]) := by
  have hl := h.lo
  obtain ⟨S, l, left, steps, dark⟩ := D
  have hl' : 64 ≤ S.length := hl
  refine Ctr.intro Tryz.func147 rfl Tryz.ntmps147 rfl fun x w hp => ?_
  (refine CC.openL (rdisk_eq p _) (by first | exact pickA | exact updA) ?_; rintro ⟨sb, sc, la, lc⟩ -)
  cases dark
  · have h0 : DS.lit ⟨S, l, left, steps, false⟩ 0 = 0 := by
      simp only [DS.lit, DS.there, errOf, Bool.false_eq_true, if_false]
      rw [if_pos ⟨by omega, by omega⟩]
    refine wk ?_
    (refine CX.shutL (rdisk_eq p ⟨S, l, left, steps, false⟩) (_, _, _, _) trivial (by exact selA) ?_)
    refine CX.callA (rstep_c p ⟨S, l, left, steps, false⟩ h (by omega)) ?_
    rintro _ _ ⟨rfl, rfl⟩
    by_cases h2 : (DS.step ⟨S, l, left, steps, false⟩).1 = 0
    · have e : DS.flush ⟨S, l, left, steps, false⟩ = (0, (DS.step ⟨S, l, left, steps, false⟩).2.settle [] 128) := by simp [DS.flush, h0, h2]
      have hw := step_wf h
      rw [e]
      refine wk ?_
      generalize (DS.step ⟨S, l, left, steps, false⟩).2 = D' at hw ⊢
      have hlo := hw.loose
      have hlb : ∀ p ∈ D'.loose, WB p.2 := fun p hp => (hw.lb p hp).2
      (refine CC.openL (rdisk_eq p _) (by first | exact pickA | exact updA) ?_; rintro ⟨sb, sc, la, lc⟩ -)
      refine CC.loop (X := Nat) (fun i => [(4, .int .i64 (i : Int)), (0, .pointer (some ⟨p, 0, none⟩))])
        (fun i => [bk p 112 [.slice (some ⟨sb, 0, none⟩) D'.sure.length sc, .slice la D'.loose.length lc, .int .i64 D'.left, .bool D'.dark, .int .i64 (D'.steps : Int)],
          own 59 128 (some ⟨sb, 0, none⟩) D'.sure.length sc (flat (settleL D'.sure [] 128 0 (D'.loose.take i))), own 115 129 la D'.loose.length lc (flatL D'.loose), exact x])
        (fun i => i ≤ D'.loose.length) (fun i => D'.loose.length - i) 0 (Nat.zero_le _) ⟨rfl, rfl, trivial⟩ (by exact selA) ?_
      intro i hi
      by_cases hlt : i < D'.loose.length
      · have hwb := hlb D'.loose[i] (by simp)
        have hin := (hw.lb D'.loose[i] (by simp)).1
        have hSw := settleL_WB [] 128 (D'.loose.take i) D'.sure 0 hw.wb (fun q hq => hw.lb q (List.mem_of_mem_take hq))
        have hSl' : (settleL D'.sure [] 128 0 (D'.loose.take i)).length = D'.sure.length := length_settleL _ _ _ _ _
        have hsnoc : settleL D'.sure [] 128 0 (D'.loose.take (i + 1)) = (settleL D'.sure [] 128 0 (D'.loose.take i)).set D'.loose[i].1 (torn ((settleL D'.sure [] 128 0 (D'.loose.take i)).getD D'.loose[i].1 []) D'.loose[i].2 128) := by
          rw [List.take_succ_eq_append_getElem hlt, settleL_snoc]; rfl
        generalize settleL D'.sure [] 128 0 (D'.loose.take i) = SS at *
        refine CC.fact (p := ∃ g, la = some ⟨g, 0, none⟩) (fun h hs => ?_) fun hla => ?_
        · rcases own_some (Pick.ok (show Pick (own 115 129 la D'.loose.length lc (flatL D'.loose)) _ _ from by first | exact pickA | exact updA) hs) with ⟨_, h0, _⟩ | hh
          · omega
          · exact hh
        obtain ⟨g, rfl⟩ := hla
        refine wk ?_
        refine CC.draw [(0, 0), (1, 0), (2, 0), (3, 1), (4, 0), (5, 0), (6, 0), (7, 1), (8, 0), (9, 0), (10, 0), (11, 1), (12, 0), (13, 0), (14, 0), (15, 1), (16, 0), (17, 0), (18, 0), (19, 1), (20, 0), (21, 3)] mixed rfl (by kernel_rfl) (by kernel_rfl) [bk p 112 [.slice (some ⟨sb, 0, none⟩) D'.sure.length sc, .slice (some ⟨g, 0, none⟩) D'.loose.length lc, .int .i64 D'.left, .bool D'.dark, .int .i64 (D'.steps : Int)], own 115 129 (some ⟨g, 0, none⟩) D'.loose.length lc (flatL D'.loose)] ?_
        refine hwk ?_
        (apply CH.pure; (· rfl); (· apply PS.indexAddr (j := i); (· rfl); (· rfl); (· rfl); (· rfl); (· exact hlt)))
        refine hwk ?_
        (apply CH.read; (· rfl); (· apply PS.load (v := .int .i64 (D'.loose[i].1 : Int)); (· rfl); (· rfl); (· exact CellAt.own (by first | exact pickA | exact updA) (by rw [Nat.zero_add, Nat.add_zero]; exact flatL_n _ hlb i hlt))); (· exact selA))
        refine hwk ?_
        (apply CH.pure; (· rfl); (· apply PS.indexAddr (j := i); (· rfl); (· rfl); (· rfl); (· rfl); (· exact hlt)))
        refine hwk ?_
        (apply CH.read; (· rfl); (· apply PS.loadG (vs := cb D'.loose[i].2); (· rfl); (· rfl); (· exact CellsAt.own (by first | exact pickA | exact updA) (by rw [hwb.len, Nat.zero_add]; exact flatL_b _ hlb i hlt)); (· exact hwb.len)); (· exact selA))
        (apply CH.pure; (· rfl); (· apply PS.indexAddr (j := D'.loose[i].1); (· rfl); (· rfl); (· rfl); (· rfl); (· exact hin)))
        refine CH.tail rfl rfl fun K hK => ?_
        apply CX.storeOwn (v := .agg (cb D'.loose[i].2).toArray)
        · rfl
        · rfl
        · rfl
        · show (cb _).toArray.size = 128
          rw [List.size_toArray]; exact hwb.len
        · simpa [Value.cells] using one_cb _
        · first | exact pickA | exact updA
        · omega
        have e1 : setL (flat SS) (0 + D'.loose[i].1 * 128) (Value.agg (cb D'.loose[i].2).toArray).cells.toList = flat (settleL D'.sure [] 128 0 (D'.loose.take (i + 1))) := by
          have := flat_set hSw (k := D'.loose[i].1) (by omega) D'.loose[i].2 128 (Nat.le_refl _) hwb
          rw [List.take_of_length_le (by rw [hwb]; omega)] at this
          rw [hsnoc, ← this, Nat.zero_add]; rfl
        rw [e1]
        clear e1
        (refine CX.nil ?_; refine CQ.thenK ?_; apply hK; clear hK K)
        refine hwk ?_
        refine wk ?_
        exact CQ.round (i + 1) hlt (by omega) ⟨eqI (by omega), rfl, trivial⟩ (by exact selA)
      · obtain rfl : i = D'.loose.length := by omega
        refine wk ?_
        refine CQ.ownNil 115 129 ?_
        have e2 : D'.sure.length = (D'.settle [] 128).sure.length := by simp [DS.settle, length_settleL]
        rw [e2, List.take_length]
        (refine CQ.shutL (rdisk_eq p (D'.settle [] 128)) (_, _, _, _) trivial (by exact selA) ?_)
        ((apply CQ.end1; (· rfl); (· exact .tmp rfl)); (· exact ⟨rfl, rfl⟩); (· exact selA))
    · have e : DS.flush ⟨S, l, left, steps, false⟩ = DS.step ⟨S, l, left, steps, false⟩ := by simp [DS.flush, h0, h2]
      rw [e]
      refine wk ?_
      ((apply CQ.end1; (· rfl); (· exact .tmp rfl)); (· exact ⟨rfl, rfl⟩); (· exact selA))
  · have e : DS.flush ⟨S, l, left, steps, true⟩ = (9, ⟨S, l, left, steps, true⟩) := by simp [DS.flush, DS.lit]
    rw [e]
    refine wk ?_
    (refine CQ.shutL (rdisk_eq p ⟨S, l, left, steps, true⟩) (_, _, _, _) trivial (by exact selA) ?_)
    ((apply CQ.end1; (· rfl); (· exact .tmp rfl)); (· exact ⟨rfl, rfl⟩); (· exact selA))
abbrev RL (p : Nat) (D : DS) (sb sc : Nat) (la : Option Addr) (lc : Nat) : List Assn :=
    [bk p 112 [.slice (some ⟨sb, 0, none⟩) D.sure.length sc, .slice la D.loose.length lc, .int .i64 D.left, .bool D.dark, .int .i64 (D.steps : Int)],
     own 59 128 (some ⟨sb, 0, none⟩) D.sure.length sc (flat D.sure), own 115 129 la D.loose.length lc (flatL D.loose)]
theorem rnew_c (n : Int) : Ctr Tryz.prog 56 [.int .i64 n] [] (fun _ => True) (fun v M => (64 ≤ n ∧ n ≤ 4096 ∧ ∃ p, v = .tuple #[.pointer (some ⟨p, 0, none⟩), .int .i64 0] ∧ M = [rdisk p (DS.new n.toNat)]) ∨ (¬(64 ≤ n ∧ n ≤ 4096) ∧ v = .tuple #[.pointer none, .int .i64 2] ∧ M = [])) := by
  refine Ctr.intro Tryz.func56 rfl Tryz.ntmps56 rfl fun x w hp => ?_
  by_cases h1 : n < 64
  · refine wk ?_
    (apply CQ.end2; (· rfl); (· exact .tmp rfl); (· exact .tmp rfl))
    · exact .inr ⟨by omega, rfl, rfl⟩
    · exact selA
  by_cases h2 : 4096 < n
  · refine wk ?_
    (apply CQ.end2; (· rfl); (· exact .tmp rfl); (· exact .tmp rfl))
    · exact .inr ⟨by omega, rfl, rfl⟩
    · exact selA
  obtain ⟨k, rfl⟩ : ∃ k : Nat, n = k := ⟨n.toNat, by omega⟩
  refine wk ?_
  (apply CX.makeSl (l := k); (· rfl); (· rfl); (· rfl); (· rfl); (· omega); intro sb)
  (apply CX.ps; (· apply PS.build (vs := [(0, .slice (some ⟨sb, 0, none⟩) k k)]); (· rfl); (· rfl); (· rfl)))
  (refine CX.boxA ?_; intro p)
  refine wk ?_
  refine CQ.ownNil 115 129 ?_
  have e : (madeCells (List.replicate 128 (Value.int .u8 0)).toArray (k * 128)).toList = flat (List.replicate k zblk) := by rw [made_rep _ _ _ (by omega), flat_zs]
  have e2 : k = (DS.new k).sure.length := by simp [DS.new]
  have e3 : (fun l => flat (List.replicate l zblk)) k = flat (DS.new k).sure := rfl
  apply CQ.mem (L' := RL p (DS.new k) sb k none 0 ++ [exact x])
  · intro h hs
    have hs' : Sep ([own 115 129 none 0 0 [], bk p 112 [.slice (some ⟨sb, 0, none⟩) k k, .slice none 0 0, .int .i64 0, .bool false, .int .i64 0], own 59 128 (some ⟨sb, 0, none⟩) k k (madeCells (List.replicate 128 (Value.int .u8 0)).toArray (k * 128)).toList, exact x]) h := hs
    rw [e] at hs'
    have : Sel [own 115 129 none 0 0 [], bk p 112 [.slice (some ⟨sb, 0, none⟩) k k, .slice none 0 0, .int .i64 0, .bool false, .int .i64 0], own 59 128 (some ⟨sb, 0, none⟩) k k (flat (List.replicate k zblk)), exact x] (RL p (DS.new k) sb k none 0 ++ [exact x]) [] := by
      simp only [RL, DS.new, List.length_replicate]
      exact selA
    exact (this.sep hs').left
  (refine CQ.shutL (rdisk_eq p (DS.new k)) (_, _, _, _) trivial (by exact selA) ?_)
  (apply CQ.end2; (· rfl); (· exact .tmp rfl); (· exact .tmp rfl))
  · exact .inl ⟨by omega, by omega, p, rfl, rfl⟩
  · exact selA
theorem torn_succ {a b : Blk} (ha : WB a) (hb : WB b) {i : Nat} (hi : i < 128) : setL (cb (torn a b i)) (0 + i * 1) [.int .u8 ((b[i]'(by rw [hb]; exact hi)).toNat : Int)] = cb (torn a b (i + 1)) := by
  have hib : i < b.length := by rw [hb]; exact hi
  have e : [Value.int .u8 (b[i].toNat : Int)] = cb [b[i]] := rfl
  rw [e, cb_setL, Nat.zero_add, Nat.mul_one]
  congr 1
  have hl : (b.take i).length = i := by rw [List.length_take, hb]; omega
  unfold torn
  rw [List.take_append_of_le_length (by omega), List.take_of_length_le (by omega), List.drop_append, hl, List.drop_of_length_le (by rw [hl]; simp), List.nil_append, List.drop_drop, List.take_succ_eq_append_getElem hib, List.append_assoc]
  congr 3
  simp
theorem rtorn_c (a b : Blk) (ha : WB a) (hb : WB b) (n : Int) : Ctr Tryz.prog 64 [.agg (cb a).toArray, .agg (cb b).toArray, .int .i64 n] [] (fun _ => True) (fun v M => v = .agg (cb (torn a b (min (max n 0) 128).toNat)).toArray ∧ M = []) := by
  refine Ctr.intro Tryz.func64 rfl Tryz.ntmps64 rfl fun x w hp => ?_
  refine wk ?_
  (refine CX.boxA ?_; intro r)
  refine wk ?_
  (refine CX.boxA ?_; intro s)
  refine wk ?_
  (refine CX.allocZ (cb zblk) ?_; intro t)
  refine wk ?_
  generalize hm : (min (max n 0) 128).toNat = m
  refine CC.loop (X := Nat) (fun i => [(7, .int .i64 (i : Int)), (2, .int .i64 n), (3, .pointer (some ⟨r, 0, none⟩)), (4, .pointer (some ⟨s, 0, none⟩)), (6, .pointer (some ⟨t, 0, none⟩))])
    (fun i => [bk t 59 (cb zblk), bk s 59 (cb b), bk r 59 (cb (torn a b i)), exact x]) (fun i => i ≤ m) (fun i => 128 - i) 0 (Nat.zero_le _) ⟨rfl, rfl, rfl, rfl, rfl, trivial⟩ (by exact selA) ?_
  intro i hi
  by_cases hlt : i < m
  · have h1 : (i : Int) < 128 := by omega
    have h2 : (i : Int) < n := by omega
    have hib : i < b.length := by rw [hb]; omega
    have hw := torn_WB (n := i) ha hb
    refine wk ?_
    (apply CX.ps; (· apply PS.indexArr (j := i); (· rfl); (· rfl); (· rfl); (· rfl); (· omega)))
    (apply CX.ps; (· apply PS.load (v := .int .u8 (b[i].toNat : Int)); (· rfl); (· rfl); (· exact CellAt.pick (by first | exact pickA | exact updA) (by rw [Nat.zero_add, Nat.mul_one]; exact cb_get b i hib))))
    (apply CX.ps; (· apply PS.indexArr (j := i); (· rfl); (· rfl); (· rfl); (· rfl); (· omega)))
    (apply CX.storeC (v := .int .u8 (b[i].toNat : Int)); (· rfl); (· rfl); (· rfl); (· rfl); (· intro u hu; simp [Value.cells] at hu; rw [hu]; rfl))
    · first | exact pickA | exact updA
    · rw [hw.len]; omega
    have e1 : setL (cb (torn a b i)) (0 + i * 1) (Value.int .u8 (b[i].toNat : Int)).cells.toList = cb (torn a b (i + 1)) := torn_succ ha hb (by omega)
    rw [e1]
    refine wk ?_
    exact CQ.round (i + 1) hlt (by omega) ⟨eqI (by omega), rfl, rfl, rfl, rfl, trivial⟩ (by exact selA)
  · obtain rfl : i = m := by omega
    have hw := torn_WB (n := i) ha hb
    by_cases h1 : (i : Int) < 128
    · refine wk ?_
      ((apply CX.ps; (· apply PS.loadG (vs := cb (torn a b i)); (· rfl); (· rfl); (· exact CellsAt.all (by first | exact pickA | exact updA)); (· exact hw.len))))
      (apply CX.storeAll; (· rfl); (· rfl); (· rfl); (· first | exact pickA | exact updA); (· exact hw.len); (· exact WB_z.len); (· exact one_cb _))
      refine wk ?_
      ((apply CQ.end1; (· rfl); (· exact .cells inferInstance rfl (CellsAt.all (by first | exact pickA | exact updA)) (hw.len))); (· exact ⟨rfl, rfl⟩); (· exact selA))
    · refine wk ?_
      ((apply CX.ps; (· apply PS.loadG (vs := cb (torn a b i)); (· rfl); (· rfl); (· exact CellsAt.all (by first | exact pickA | exact updA)); (· exact hw.len))))
      (apply CX.storeAll; (· rfl); (· rfl); (· rfl); (· first | exact pickA | exact updA); (· exact hw.len); (· exact WB_z.len); (· exact one_cb _))
      refine wk ?_
      ((apply CQ.end1; (· rfl); (· exact .cells inferInstance rfl (CellsAt.all (by first | exact pickA | exact updA)) (hw.len))); (· exact ⟨rfl, rfl⟩); (· exact selA))
end Go.Proofs.YtlckhaodecdbbaaGreatDoor
/-! The document's disk: Read, Rot, Crash. -/
namespace Go.Proofs.YtlckhaodecdbbaaGreatDoor
open Go.Cx
attribute [local irreducible] Go.Cx.CX Go.Cx.CC Go.Cx.CQ Go.Cx.PS Go.Cx.Ctr Go.Cx.CH
set_option maxRecDepth 10000

theorem flat_get {S : List Blk} (h : ∀ b ∈ S, WB b) {k : Nat} (hk : k < S.length) : ((flat S).drop (0 + k * 128)).take (cb (S.getD k [])).length = cb (S.getD k []) := by
  have hg : S.getD k [] = S[k] := by simp [hk]
  have hb : WB S[k] := h _ (by simp)
  have := rows_get cb 128 S (fun x hx => (h x hx).len) k hk 0 128 (by omega)
  rw [hg, hb.len, Nat.zero_add]
  rw [Nat.add_zero, List.drop_zero] at this
  rw [flat, this, List.take_of_length_le (by rw [hb.len]; omega)]
theorem valOf_WB {S : List Blk} {l : List (Nat × Blk)} (hS : ∀ b ∈ S, WB b) (hl : ∀ p ∈ l, WB p.2) {k : Nat} (hk : k < S.length) : WB (valOf S l k) := by
  unfold valOf
  split
  · rename_i p hp
    have := List.mem_of_find?_eq_some hp
    exact hl p (by simpa using this)
  · exact getD_WB hS hk
theorem valOf_succ (S : List Blk) (l : List (Nat × Blk)) (k i : Nat) (h : i < l.length) : valOf S (l.take (i + 1)) k = if l[i].1 = k then l[i].2 else valOf S (l.take i) k := by
  unfold valOf
  rw [lastOf_succ l k i h]
  by_cases he : l[i].1 = k
  · rw [if_pos he, if_pos he]
  · rw [if_neg he, if_neg he]
theorem torn_all {a b : Blk} (ha : WB a) (hb : WB b) : torn a b 128 = b := by
  unfold torn; rw [List.take_of_length_le (by rw [hb]; omega), List.drop_of_length_le (by rw [ha]; omega), List.append_nil]
theorem rread_c (p : Nat) (D : DS) (n : Int) {N : Nat} (h : D.wf N) (hN : N < 1000000) : Ctr Tryz.prog 170 [.pointer (some ⟨p, 0, none⟩), .int .i64 n] [rdisk p D] (fun _ => True) (fun v M => v = .tuple #[.agg (cb (D.read n).1).toArray, .int .i64 (D.read n).2] ∧ M = [rdisk p D]) := by
  have hlo := h.loose
  have hlb : ∀ p ∈ D.loose, WB p.2 := fun p hp => (h.lb p hp).2
  refine Ctr.intro Tryz.func170 rfl Tryz.ntmps170 rfl fun x w hp => ?_
  refine wk ?_
  (refine CX.allocZ (cb zblk) ?_; intro r)
  refine wk ?_
  refine CX.callA (rasks_c p D n) ?_
  rintro _ _ ⟨rfl, rfl⟩
  by_cases h0 : D.lit n = 0
  · have h1 : D.there n = 0 := by unfold DS.lit at h0; split at h0; cases h0; exact h0
    obtain ⟨k, rfl, hk⟩ := there_ok h1
    have hb : WB D.sure[k] := h.wb _ (by simp)
    (refine CX.openL (rdisk_eq p _) (by first | exact pickA | exact updA) ?_; rintro ⟨sb, sc, la, lc⟩ -)
    refine wk ?_
    (refine CX.indexA (k) ?_ ?_; (· exact hk))
    (apply CX.ps; (· apply PS.loadG (vs := cb D.sure[k]); (· rfl); (· rfl); (· exact CellsAt.own (by first | exact pickA | exact updA) (sure_at h hk)); (· exact hb.len)))
    (refine CX.allocZ (cb zblk) ?_; intro b7)
    (apply CX.storeAll; (· rfl); (· rfl); (· rfl); (· first | exact pickA | exact updA); (· exact hb.len); (· exact WB_z.len); (· exact one_cb _))
    refine wk ?_
    have hv0 : D.sure[k] = valOf D.sure (D.loose.take 0) k := by simp [valOf, lastOf, hk]
    have hr : D.read k = (valOf D.sure D.loose k, 0) := by simp [DS.read, h0, DS.get, valOf, lastOf]; rfl
    rw [hv0]
    refine CC.loop (X := Nat) (fun i => [(8, .int .i64 (i : Int)), (0, .pointer (some ⟨p, 0, none⟩)), (1, .int .i64 (k : Int)), (4, .pointer (some ⟨r, 0, none⟩)), (7, .pointer (some ⟨b7, 0, none⟩))])
      (fun i => [bk b7 59 (cb (valOf D.sure (D.loose.take i) k)), bk p 112 [.slice (some ⟨sb, 0, none⟩) D.sure.length sc, .slice la D.loose.length lc, .int .i64 D.left, .bool D.dark, .int .i64 (D.steps : Int)],
        own 59 128 (some ⟨sb, 0, none⟩) D.sure.length sc (flat D.sure), own 115 129 la D.loose.length lc (flatL D.loose), bk r 59 (cb zblk), exact x])
      (fun i => i ≤ D.loose.length) (fun i => D.loose.length - i) 0 (Nat.zero_le _) ⟨rfl, rfl, rfl, rfl, rfl, trivial⟩ (by exact selA) ?_
    intro i hi
    have hvw : ∀ j, WB (valOf D.sure (D.loose.take j) k) := fun j => valOf_WB h.wb (fun q hq => hlb q (List.mem_of_mem_take hq)) hk
    by_cases hlt : i < D.loose.length
    · have hs := valOf_succ D.sure D.loose k i hlt
      have hb' : WB D.loose[i].2 := hlb _ (by simp)
      refine wk ?_
      (refine CX.indexOA (i) ?_ ?_; (· exact hlt); rintro g rfl)
      refine wk ?_
      (apply CX.ps; (· apply PS.load (v := .int .i64 (D.loose[i].1 : Int)); (· rfl); (· rfl); (· exact CellAt.own (by first | exact pickA | exact updA) (flatL_n _ hlb i hlt))))
      by_cases he : D.loose[i].1 = k
      · have he' : (D.loose[i].1 : Int) = k := by omega
        rw [if_pos he] at hs
        refine wk ?_
        (refine CX.indexA (i) ?_ ?_; (· exact hlt))
        refine wk ?_
        (apply CX.ps; (· apply PS.loadG (vs := cb D.loose[i].2); (· rfl); (· rfl); (· exact CellsAt.own (by first | exact pickA | exact updA) (by rw [hb'.len, Nat.zero_add]; exact flatL_b _ hlb i hlt)); (· exact hb'.len)))
        (apply CX.storeAll; (· rfl); (· rfl); (· rfl); (· first | exact pickA | exact updA); (· exact hb'.len); (· exact (hvw i).len); (· exact one_cb _))
        rw [← hs]
        refine wk ?_
        exact CQ.round (i + 1) hlt (by omega) ⟨eqI (by omega), rfl, rfl, rfl, rfl, trivial⟩ (by exact selA)
      · have he' : ¬ (D.loose[i].1 : Int) = k := by omega
        rw [if_neg he] at hs
        rw [← hs]
        refine wk ?_
        exact CQ.round (i + 1) hlt (by omega) ⟨eqI (by omega), rfl, rfl, rfl, rfl, trivial⟩ (by exact selA)
    · obtain rfl : i = D.loose.length := by omega
      have hw := hvw D.loose.length
      rw [List.take_length] at hw ⊢
      rw [hr]
      refine wk ?_
      ((apply CX.ps; (· apply PS.loadG (vs := cb (valOf D.sure D.loose k)); (· rfl); (· rfl); (· exact CellsAt.all (by first | exact pickA | exact updA)); (· exact hw.len))))
      (apply CX.storeAll; (· rfl); (· rfl); (· rfl); (· first | exact pickA | exact updA); (· exact hw.len); (· exact WB_z.len); (· exact one_cb _))
      refine wk ?_
      (refine CQ.shutL (rdisk_eq p D) (_, _, _, _) trivial (by exact selA) ?_)
      ((apply CQ.end2; (· rfl); (· exact .cells inferInstance rfl (CellsAt.all (by first | exact pickA | exact updA)) (hw.len)); (· exact .tmp rfl)); (· exact ⟨rfl, rfl⟩); (· exact selA))
  · refine wk ?_
    (apply CX.ps; (· apply PS.buildZ (vs := cb zblk); (· rfl); (· simp [cb_z, Value.cells])))
    refine wk ?_
    (apply CX.storeAll; (· rfl); (· rfl); (· rfl); (· first | exact pickA | exact updA); (· exact WB_z.len); (· exact WB_z.len); (· exact one_cb _))
    refine wk ?_
    ((apply CQ.end2; (· rfl); (· exact .cells inferInstance rfl (CellsAt.all (by first | exact pickA | exact updA)) (WB_z.len)); (· exact .tmp rfl)); (· exact ⟨by simp [DS.read, h0], rfl⟩); (· exact selA))
theorem rcrash_c (p : Nat) (D : DS) (picks : List Int) (a : Option Addr) (c : Nat) {N : Nat} (h : D.wf N) (hN : N < 1000000) : Ctr Tryz.prog 25 [.pointer (some ⟨p, 0, none⟩), .slice a picks.length c] [rdisk p D] (rdx a picks.length (picks.map (Value.int .i64))) (fun v M => v = .int .i64 0 ∧ M = [rdisk p (D.crash picks)]) := by
  have hlo := h.loose
  have hlb : ∀ p ∈ D.loose, WB p.2 := fun p hp => (h.lb p hp).2
  refine Ctr.intro Tryz.func25 rfl Tryz.ntmps25 rfl fun x w hp => ?_
  (refine CC.openL (rdisk_eq p _) (by first | exact pickA | exact updA) ?_; rintro ⟨sb, sc, la, lc⟩ -)
  refine wk ?_
  refine CC.loop (X := Nat) (fun i => [(5, .int .i64 (i : Int)), (0, .pointer (some ⟨p, 0, none⟩)), (1, .slice a picks.length c)])
    (fun i => [bk p 112 [.slice (some ⟨sb, 0, none⟩) D.sure.length sc, .slice la D.loose.length lc, .int .i64 D.left, .bool D.dark, .int .i64 (D.steps : Int)],
      own 59 128 (some ⟨sb, 0, none⟩) D.sure.length sc (flat (settleL D.sure picks 0 0 (D.loose.take i))), own 115 129 la D.loose.length lc (flatL D.loose), exact x])
    (fun i => i ≤ D.loose.length) (fun i => D.loose.length - i) 0 (Nat.zero_le _) ⟨rfl, rfl, rfl, trivial⟩ (by exact selA) ?_
  intro i hi
  by_cases hlt : i < D.loose.length
  · have hwb := hlb D.loose[i] (by simp)
    have hin := (h.lb D.loose[i] (by simp)).1
    have hSw := settleL_WB picks 0 (D.loose.take i) D.sure 0 h.wb (fun q hq => h.lb q (List.mem_of_mem_take hq))
    have hSl' : (settleL D.sure picks 0 0 (D.loose.take i)).length = D.sure.length := length_settleL _ _ _ _ _
    have hsnoc : settleL D.sure picks 0 0 (D.loose.take (i + 1)) = (settleL D.sure picks 0 0 (D.loose.take i)).set D.loose[i].1 (torn ((settleL D.sure picks 0 0 (D.loose.take i)).getD D.loose[i].1 []) D.loose[i].2 (pickAt picks 0 i)) := by
      rw [List.take_succ_eq_append_getElem hlt, settleL_snoc, List.length_take, Nat.zero_add, Nat.min_eq_left hi]
    generalize settleL D.sure picks 0 0 (D.loose.take i) = SS at *
    refine CC.fact (p := ∃ g, la = some ⟨g, 0, none⟩) (fun h hs => ?_) fun hla => ?_
    · rcases own_some (Pick.ok (show Pick (own 115 129 la D.loose.length lc (flatL D.loose)) _ _ from by first | exact pickA | exact updA) hs) with ⟨_, h0, _⟩ | hh
      · omega
      · exact hh
    obtain ⟨g, rfl⟩ := hla
    refine wk ?_
    refine CC.join (X := Int) (fun z => [(6, .int .i64 z), (5, .int .i64 (i : Int)), (0, .pointer (some ⟨p, 0, none⟩)), (1, .slice a picks.length c)])
      (fun z => [bk p 112 [.slice (some ⟨sb, 0, none⟩) D.sure.length sc, .slice (some ⟨g, 0, none⟩) D.loose.length lc, .int .i64 D.left, .bool D.dark, .int .i64 (D.steps : Int)],
      own 59 128 (some ⟨sb, 0, none⟩) D.sure.length sc (flat SS), own 115 129 (some ⟨g, 0, none⟩) D.loose.length lc (flatL D.loose), exact x]) (fun z => (min (max z 0) 128).toNat = pickAt picks 0 i) ?_ ?_
    · by_cases hpk : i < picks.length
      · rcases hp with h0 | ⟨pg, off, cs, pt, fr, rfl, hx, hcs⟩
        · omega
        have hz : picks[i]? = some picks[i] := by simp [hpk]
        refine wk ?_
        (refine CX.indexA (i) ?_ ?_; (· exact hpk))
        (apply CX.ps; (· apply PS.load (v := .int .i64 picks[i]); (· rfl); (· rfl); (· exact CellAt.exact (by first | exact pickA | exact updA) ⟨cs, pt, fr, hx, by rw [Nat.mul_one]; exact hcs i _ (by simp [hpk])⟩)))
        refine wk ?_
        exact CQ.joined picks[i] (by simp only [pickAt, hz]) ⟨rfl, rfl, rfl, rfl, trivial⟩ (by exact selA)
      · have hz : picks[i]? = none := by simp; omega
        refine wk ?_
        exact CQ.joined 0 (by simp only [pickAt, hz]; rfl) ⟨rfl, rfl, rfl, rfl, trivial⟩ (by exact selA)
    · intro z hz
      have hg1 : WB (SS.getD D.loose[i].1 []) := getD_WB hSw (by omega)
      refine CC.draw [(0, 0), (1, 0), (2, 0), (3, 1), (4, 0), (5, 0), (6, 0), (7, 1), (8, 0), (9, 0), (10, 0), (11, 1), (12, 0), (13, 0), (14, 0), (15, 1), (16, 0), (17, 0), (18, 0), (19, 1), (20, 0), (21, 0), (22, 0), (23, 1), (24, 0), (25, 1), (26, 0), (27, 0), (28, 0), (29, 1), (30, 0), (31, 0), (32, 0), (33, 1), (34, 0), (35, 2), (36, 0), (37, 3)] mixed rfl (by kernel_rfl) (by kernel_rfl) [bk p 112 [.slice (some ⟨sb, 0, none⟩) D.sure.length sc, .slice (some ⟨g, 0, none⟩) D.loose.length lc, .int .i64 D.left, .bool D.dark, .int .i64 (D.steps : Int)], own 59 128 (some ⟨sb, 0, none⟩) D.sure.length sc (flat SS), own 115 129 (some ⟨g, 0, none⟩) D.loose.length lc (flatL D.loose)] ?_
      refine hwk ?_
      (apply CH.pure; (· rfl); (· apply PS.indexAddr (j := i); (· rfl); (· rfl); (· rfl); (· rfl); (· exact hlt)))
      refine hwk ?_
      (apply CH.read; (· rfl); (· apply PS.load (v := .int .i64 (D.loose[i].1 : Int)); (· rfl); (· rfl); (· exact CellAt.own (by first | exact pickA | exact updA) (by rw [Nat.zero_add, Nat.add_zero]; exact flatL_n _ hlb i hlt))); (· exact selA))
      refine hwk ?_
      (apply CH.pure; (· rfl); (· apply PS.indexAddr (j := i); (· rfl); (· rfl); (· rfl); (· rfl); (· exact hlt)))
      refine hwk ?_
      (apply CH.read; (· rfl); (· apply PS.load (v := .int .i64 (D.loose[i].1 : Int)); (· rfl); (· rfl); (· exact CellAt.own (by first | exact pickA | exact updA) (by rw [Nat.zero_add, Nat.add_zero]; exact flatL_n _ hlb i hlt))); (· exact selA))
      (apply CH.pure; (· rfl); (· apply PS.indexAddr (j := D.loose[i].1); (· rfl); (· rfl); (· rfl); (· rfl); (· exact hin)))
      (apply CH.read; (· rfl); (· apply PS.loadG (vs := cb (SS.getD D.loose[i].1 [])); (· rfl); (· rfl); (· exact CellsAt.own (by first | exact pickA | exact updA) (flat_get hSw (by omega))); (· exact hg1.len)); (· exact selA))
      refine hwk ?_
      (apply CH.pure; (· rfl); (· apply PS.indexAddr (j := i); (· rfl); (· rfl); (· rfl); (· rfl); (· exact hlt)))
      refine hwk ?_
      (apply CH.read; (· rfl); (· apply PS.loadG (vs := cb D.loose[i].2); (· rfl); (· rfl); (· exact CellsAt.own (by first | exact pickA | exact updA) (by rw [hwb.len, Nat.zero_add]; exact flatL_b _ hlb i hlt)); (· exact hwb.len)); (· exact selA))
      refine hwk ?_
      refine CH.chain rfl fun K hK => ?_
      refine CX.callA (rtorn_c (SS.getD D.loose[i].1 []) D.loose[i].2 hg1 hwb z) ?_
      rintro _ _ ⟨rfl, rfl⟩
      rw [hz]
      (refine CX.nil ?_; refine CQ.thenK ?_; apply hK; (· exact selA); clear hK K)
      (apply CH.pure; (· rfl); (· apply PS.indexAddr (j := D.loose[i].1); (· rfl); (· rfl); (· rfl); (· rfl); (· exact hin)))
      have hpm : pickAt picks 0 i ≤ 128 := by simp only [pickAt]; split <;> omega
      have htw := torn_WB (n := pickAt picks 0 i) hg1 hwb
      refine CH.tail rfl rfl fun K hK => ?_
      apply CX.storeOwn (v := .agg (cb (torn (SS.getD D.loose[i].1 []) D.loose[i].2 (pickAt picks 0 i))).toArray)
      · rfl
      · rfl
      · rfl
      · show (cb _).toArray.size = 128
        rw [List.size_toArray]; exact htw.len
      · simpa [Value.cells] using one_cb _
      · first | exact pickA | exact updA
      · omega
      have e1 : setL (flat SS) (0 + D.loose[i].1 * 128) (Value.agg (cb (torn (SS.getD D.loose[i].1 []) D.loose[i].2 (pickAt picks 0 i))).toArray).cells.toList = flat (settleL D.sure picks 0 0 (D.loose.take (i + 1))) := by
        have := flat_set hSw (k := D.loose[i].1) (by omega) (torn (SS.getD D.loose[i].1 []) D.loose[i].2 (pickAt picks 0 i)) 128 (Nat.le_refl _) htw
        rw [List.take_of_length_le (by rw [htw]; omega)] at this
        have e3 := torn_all hg1 htw
        rw [e3] at this
        rw [hsnoc, ← this, Nat.zero_add]; rfl
      rw [e1]
      clear e1
      (refine CX.nil ?_; refine CQ.thenK ?_; apply hK; clear hK K)
      refine hwk ?_
      refine wk ?_
      exact CQ.round (i + 1) hlt (by omega) ⟨eqI (by omega), rfl, rfl, trivial⟩ (by exact selA)
  · obtain rfl : i = D.loose.length := by omega
    refine wk ?_
    refine CQ.ownNil 115 129 ?_
    have e2 : D.sure.length = (D.crash picks).sure.length := by simp [DS.crash, DS.settle, length_settleL]
    rw [e2, List.take_length]
    (refine CQ.shutL (rdisk_eq p (D.crash picks)) (_, _, _, _) trivial (by exact selA) ?_)
    ((apply CQ.end1; (· rfl); (· exact .tmp rfl)); (· exact ⟨rfl, rfl⟩); (· exact selA))
end Go.Proofs.YtlckhaodecdbbaaGreatDoor
/-! The disk's methods where there is none, or where it holds no block. -/
namespace Go.Proofs.YtlckhaodecdbbaaGreatDoor
open Go.Cx
attribute [local irreducible] Go.Cx.CX Go.Cx.CC Go.Cx.CQ Go.Cx.PS Go.Cx.Ctr Go.Cx.CH
set_option maxRecDepth 10000

end Go.Proofs.YtlckhaodecdbbaaGreatDoor
/-! What the statement DiskNil does, step by step. -/
namespace Go.Proofs.YtlckhaodecdbbaaGreatDoor
open Go.Cx
attribute [local irreducible] Go.Cx.CX Go.Cx.CC Go.Cx.CQ Go.Cx.PS Go.Cx.Ctr Go.Cx.CH
set_option maxRecDepth 10000

end Go.Proofs.YtlckhaodecdbbaaGreatDoor
/-! What the statement DiskPlays does, step by step. -/
namespace Go.Proofs.YtlckhaodecdbbaaGreatDoor
open Go.Cx
attribute [local irreducible] Go.Cx.CX Go.Cx.CC Go.Cx.CQ Go.Cx.PS Go.Cx.Ctr Go.Cx.CH
set_option maxRecDepth 10000

theorem read_WB {D : DS} {N : Nat} (h : D.wf N) (n : Int) : WB (D.read n).1 := by
  unfold DS.read
  split
  · exact WB_z
  · rename_i h0
    have h0' : D.lit n = 0 := Decidable.not_not.1 h0
    have h1 : D.there n = 0 := by unfold DS.lit at h0'; split at h0'; cases h0'; exact h0'
    obtain ⟨k, rfl, hk⟩ := there_ok h1
    have := valOf_WB (l := D.loose) h.wb (fun p hp => (h.lb p hp).2) hk
    exact this
theorem sureAt_WB {D : DS} {N : Nat} (h : D.wf N) (n : Int) : WB (D.sureAt n).1 := by
  unfold DS.sureAt
  split
  · exact WB_z
  · rename_i h0
    obtain ⟨k, rfl, hk⟩ := there_ok (Decidable.not_not.1 h0)
    exact getD_WB h.wb hk
end Go.Proofs.YtlckhaodecdbbaaGreatDoor
/-! The journal's small methods, in the program. -/
namespace Go.Cx
/-- A journal's cells, on the disk at d. -/
def jrc (d : Nat) (J : JM) : List Value := [.pointer (some ⟨d, 0, none⟩), .int .u64 (J.n : Int), .int .u8 (J.h.bank : Int), .int .u32 (J.h.blocks : Int), .int .u32 (J.h.batches : Int)]
theorem bank_int {n : Nat} (h : 64 ≤ n) (h2 : n ≤ 4096) : IntKind.i64.wrap (((n : Int) - 2).tdiv 2) = ((((n - 2) / 2 : Nat)) : Int) := by
  rw [tdiv_nn (by omega), wr_i64 (by omega) (by omega)]; omega
end Go.Cx
namespace Go.Proofs.YtlckhaodecdbbaaGreatDoor
open Go.Cx
attribute [local irreducible] Go.Cx.CX Go.Cx.CC Go.Cx.CQ Go.Cx.PS Go.Cx.Ctr Go.Cx.CH
set_option maxRecDepth 10000
theorem jnone_c (p d : Nat) (J : JM) : Ctr Tryz.prog 95 [.pointer (some ⟨p, 0, none⟩)] [bk p 123 (jrc d J)] (fun _ => True) (fun v M => v = .bool false ∧ M = [bk p 123 (jrc d J)]) := by
  refine Ctr.intro Tryz.func95 rfl Tryz.ntmps95 rfl fun x w hp => ?_
  refine wk ?_
  ((apply CQ.end1; (· rfl); (· exact .tmp rfl)); (· exact ⟨rfl, rfl⟩); (· exact selA))
theorem jbank_c (p d : Nat) (J : JM) (D : DS) {N : Nat} (h : D.wf N) : Ctr Tryz.prog 113 [.pointer (some ⟨p, 0, none⟩)] [bk p 123 (jrc d J), disk d D] (fun _ => True) (fun v M => v = .int .i64 (bankM D : Int) ∧ M = [bk p 123 (jrc d J), disk d D]) := by
  have h1 := h.lo
  have h2 := h.hi
  refine Ctr.intro Tryz.func113 rfl Tryz.ntmps113 rfl fun x w hp => ?_
  refine wk ?_
  refine CX.callA (blocks_c d D) ?_
  rintro _ _ ⟨rfl, rfl⟩
  refine wk ?_
  refine CX.ps (PS.quo rfl rfl rfl (by decide) (bank_int h1 h2)) ?_
  refine wk ?_
  ((apply CQ.end1; (· rfl); (· exact .tmp rfl)); (· exact ⟨rfl, rfl⟩); (· exact selA))
theorem jfirst_c (p d : Nat) (J : JM) (D : DS) (b : Nat) (hb : b < 256) {N : Nat} (h : D.wf N) : Ctr Tryz.prog 129 [.pointer (some ⟨p, 0, none⟩), .int .u8 (b : Int)] [bk p 123 (jrc d J), disk d D] (fun _ => True) (fun v M => v = .int .i64 (firstM D b : Int) ∧ M = [bk p 123 (jrc d J), disk d D]) := by
  have h2 := h.hi
  have hbk : bankM D ≤ 2048 := by unfold bankM; omega
  have hmul : b * bankM D ≤ 256 * 2048 := Nat.mul_le_mul (by omega) hbk
  refine Ctr.intro Tryz.func129 rfl Tryz.ntmps129 rfl fun x w hp => ?_
  refine wk ?_
  refine CX.callA (jbank_c p d J D h) ?_
  rintro _ _ ⟨rfl, rfl⟩
  refine CX.ps (PS.mul (z := ((b * bankM D : Nat) : Int)) rfl rfl rfl (by rw [← Int.natCast_mul]; exact wr_i64 (by omega) (by omega))) ?_
  unfold firstM
  generalize b * bankM D = z at hmul
  refine wk ?_
  ((apply CQ.end1; (· rfl); (· exact .tmp rfl)); (· exact ⟨by congr 1, rfl⟩); (· exact selA))
theorem jboth_c (p d : Nat) (J : JM) (D : DS) {N : Nat} (h : D.wf N) (hN : N < 1000000) : Ctr Tryz.prog 92 [.pointer (some ⟨p, 0, none⟩)] [bk p 123 (jrc d J), disk d D] (fun _ => True)
    (fun v M => v = .tuple #[.agg (cb (bothM D).1).toArray, .agg (cb (bothM D).2.1).toArray, .int .i64 (bothM D).2.2] ∧ M = [bk p 123 (jrc d J), disk d D]) := by
  refine Ctr.intro Tryz.func92 rfl Tryz.ntmps92 rfl fun x w hp => ?_
  have w0 := read_WB h 0
  have w1 := read_WB h 1
  refine wk ?_
  refine CX.allocZ (cb zblk) ?_
  intro q2
  refine CX.allocZ (cb zblk) ?_
  intro q3
  refine wk ?_
  refine CX.callA (read_c d D 0 h hN) ?_
  rintro _ _ ⟨rfl, rfl⟩
  by_cases he : (D.read 0).2 = 0
  · have hb : bothM D = ((D.read 0).1, (D.read 1).1, (D.read 1).2) := by unfold bothM; rw [if_neg (by simp [he])]
    rw [hb, he]
    generalize (D.read 0).1 = X at *
    refine wk ?_
    (apply CX.storeAll; (· rfl); (· rfl); (· rfl); (· first | exact pickA | exact updA); (· exact w0.len); (· exact WB_z.len); (· exact one_cb _))
    refine wk ?_
    refine CX.callA (read_c d D 1 h hN) ?_
    rintro _ _ ⟨rfl, rfl⟩
    generalize hY : D.read 1 = Y at *
    refine wk ?_
    (apply CX.storeAll; (· rfl); (· rfl); (· rfl); (· first | exact pickA | exact updA); (· exact w1.len); (· exact WB_z.len); (· exact one_cb _))
    refine wk ?_
    refine CC.draw [(0, 1), (1, 1), (2, 0), (3, 2), (4, 3), (5, 0)] mixed rfl (by kernel_rfl) (by kernel_rfl) [bk q2 59 (cb X), bk q3 59 (cb Y.1)] ?_
    (apply CH.read; (· rfl); (· apply PS.loadG (vs := cb X); (· rfl); (· rfl); (· exact CellsAt.all (by first | exact pickA | exact updA)); (· exact w0.len)); (· exact selA))
    (apply CH.read; (· rfl); (· apply PS.loadG (vs := cb Y.1); (· rfl); (· rfl); (· exact CellsAt.all (by first | exact pickA | exact updA)); (· exact w1.len)); (· exact selA))
    refine hwk ?_
    refine CH.chain rfl fun K hK => ?_
    (apply CX.storeAll; (· rfl); (· rfl); (· rfl); (· first | exact pickA | exact updA); (· exact w0.len); (· exact w0.len); (· exact one_cb _))
    (refine CX.nil ?_; refine CQ.thenK ?_; apply hK; (· exact selA); clear hK K)
    refine CH.tail rfl rfl fun K hK => ?_
    (apply CX.storeAll; (· rfl); (· rfl); (· rfl); (· first | exact pickA | exact updA); (· exact w1.len); (· exact w1.len); (· exact one_cb _))
    (refine CX.nil ?_; refine CQ.thenK ?_; apply hK; clear hK K)
    refine hwk ?_
    refine wk ?_
    (apply CQ.end3; (· rfl); (· exact .cells inferInstance rfl (CellsAt.all (by first | exact pickA | exact updA)) (w0.len)); (· exact .cells inferInstance rfl (CellsAt.all (by first | exact pickA | exact updA)) (w1.len)); (· exact .tmp rfl))
    · exact ⟨rfl, rfl⟩
    · exact selA
  · have hb : bothM D = ((D.read 0).1, zblk, (D.read 0).2) := by unfold bothM; rw [if_pos he]
    rw [hb]
    generalize D.read 0 = X at *
    refine wk ?_
    (apply CX.storeAll; (· rfl); (· rfl); (· rfl); (· first | exact pickA | exact updA); (· exact w0.len); (· exact WB_z.len); (· exact one_cb _))
    refine wk ?_
    refine CC.draw [(0, 1), (1, 1), (2, 0), (3, 2), (4, 3), (5, 0)] mixed rfl (by kernel_rfl) (by kernel_rfl) [bk q2 59 (cb X.1), bk q3 59 (cb zblk)] ?_
    (apply CH.read; (· rfl); (· apply PS.loadG (vs := cb X.1); (· rfl); (· rfl); (· exact CellsAt.all (by first | exact pickA | exact updA)); (· exact w0.len)); (· exact selA))
    (apply CH.read; (· rfl); (· apply PS.loadG (vs := cb zblk); (· rfl); (· rfl); (· exact CellsAt.all (by first | exact pickA | exact updA)); (· exact WB_z.len)); (· exact selA))
    refine hwk ?_
    refine CH.chain rfl fun K hK => ?_
    (apply CX.storeAll; (· rfl); (· rfl); (· rfl); (· first | exact pickA | exact updA); (· exact w0.len); (· exact w0.len); (· exact one_cb _))
    (refine CX.nil ?_; refine CQ.thenK ?_; apply hK; (· exact selA); clear hK K)
    refine CH.tail rfl rfl fun K hK => ?_
    (apply CX.storeAll; (· rfl); (· rfl); (· rfl); (· first | exact pickA | exact updA); (· exact WB_z.len); (· exact WB_z.len); (· exact one_cb _))
    (refine CX.nil ?_; refine CQ.thenK ?_; apply hK; clear hK K)
    refine hwk ?_
    refine wk ?_
    (apply CQ.end3; (· rfl); (· exact .cells inferInstance rfl (CellsAt.all (by first | exact pickA | exact updA)) (w0.len)); (· exact .cells inferInstance rfl (CellsAt.all (by first | exact pickA | exact updA)) (WB_z.len)); (· exact .tmp rfl))
    · exact ⟨rfl, rfl⟩
    · exact selA
def planM : Pl := .op 0 0 (.op 1 0 (.op 2 0 (.op 3 1 (.op 4 0 (.op 5 1 (.fork 6 10 (.op 7 0 (.op 8 0 (.op 9 0 (.op 10 2 (.op 11 2 (.op 12 0 .nil)))))) (.op 6 2 (.op 7 0 (.op 8 0 (.op 9 0 (.op 11 2 (.op 12 0 .nil))))))))))))
theorem jmark_c (p d : Nat) (J : JM) (hJ : J.n < 4611686018427387904) (k : HdM) (hk : k.ok) (D : DS) {N : Nat} (h : D.wf N) (hN : N < 1000000) : Ctr Tryz.prog 118 [.pointer (some ⟨p, 0, none⟩), .agg (hc k).toArray] [bk p 123 (jrc d J), disk d D] (fun _ => True)
    (fun v M => v = .int .i64 (markM J k D).1 ∧ M = [bk p 123 (jrc d J), disk d (markM J k D).2]) := by
  have hw1 : WB (bothM D).1 := by unfold bothM; split <;> exact read_WB h 0
  have hw2 : WB (bothM D).2.1 := by
    unfold bothM; split
    · exact WB_z
    · exact read_WB h 1
  have hw3 : WB (putH (J.n + 1) k).1 := by
    unfold putH; split
    · exact WB_z
    · exact sealB_WB (by rw [bytes_len]; omega)
  refine Ctr.intro Tryz.func118 rfl Tryz.ntmps118 rfl fun x w hp => ?_
  refine wk ?_
  (refine CX.boxA (vs := hc k) ?_; intro q3)
  refine wk ?_
  refine CX.callA (jboth_c p d J D h hN) ?_
  unfold markM
  generalize bothM D = o at *
  rintro _ _ ⟨rfl, rfl⟩
  refine wk ?_
  refine CX.allocZ (cb zblk) ?_
  intro q5
  refine CX.allocZ (cb zblk) ?_
  intro q6
  (apply CX.storeAll; (· rfl); (· rfl); (· rfl); (· first | exact pickA | exact updA); (· exact hw1.len); (· exact WB_z.len); (· exact one_cb _))
  (apply CX.storeAll; (· rfl); (· rfl); (· rfl); (· first | exact pickA | exact updA); (· exact hw2.len); (· exact WB_z.len); (· exact one_cb _))
  by_cases he : o.2.2 = 0
  rotate_left
  · rw [if_pos he]
    refine wk ?_
    ((apply CQ.end1; (· rfl); (· exact .tmp rfl)); (· exact ⟨rfl, rfl⟩); (· exact selA))
  rw [if_neg (by simp [he]), he]
  refine wk ?_
  refine CC.join (X := Nat) (fun b => [(0, .pointer (some ⟨p, 0, none⟩)), (5, .pointer (some ⟨q5, 0, none⟩)), (6, .pointer (some ⟨q6, 0, none⟩)), (7, .int .i64 (putH (J.n + 1) k).2), (8, .pointer (some ⟨b, 0, none⟩))])
    (fun b => [bk p 123 (jrc d J), disk d D, bk q5 59 (cb o.1), bk q6 59 (cb o.2.1), bk b 59 (cb (putH (J.n + 1) k).1), exact x]) (fun _ => True) ?_ ?_
  · have hput := hput_c (J.n + 1) (by simp only [top]; omega) k hk
    generalize putH (J.n + 1) k = u at *
    refine CC.drawP planM (fun _ => false) mixed rfl (by kernel_rfl) (by kernel_rfl) [bk p 123 (jrc d J), bk q3 121 (hc k)] ?_
    unfold planM
    refine hqk ?_
    refine CP.read ?_ (hp := PS.loadG (vs := hc k) rfl rfl (CellsAt.all (by first | exact pickA | exact updA)) rfl)
    refine CP.fork ?_ ?_
    · intro K hK
      refine CX.callA (hput) ?_
      rintro _ _ ⟨rfl, rfl⟩
      (refine CX.nil ?_; refine CQ.thenK ?_; apply hK; (· exact selA); clear hK K)
      refine hqk ?_
      refine CP.act ?_
      intro K hK
      refine CX.allocZ (cb zblk) ?_
      intro q8
      (refine CX.nil ?_; refine CQ.thenK ?_; apply hK; (· exact selA); clear hK K)
      refine CP.act ?_
      intro K hK
      (apply CX.storeAll; (· rfl); (· rfl); (· rfl); (· first | exact pickA | exact updA); (· exact hw3.len); (· exact WB_z.len); (· exact one_cb _))
      (refine CX.nil ?_; refine CQ.thenK ?_; apply hK; (· exact selA); clear hK K)
      refine hqk ?_
      exact CQ.joined q8 trivial ⟨rfl, rfl, rfl, rfl, rfl, trivial⟩ (by exact selA)
    · intro K hK
      refine CX.allocZ (cb zblk) ?_
      intro q8
      (refine CX.nil ?_; refine CQ.thenK ?_; apply hK; (· exact selA); clear hK K)
      refine CP.act ?_
      intro K hK
      refine CX.callA (hput) ?_
      rintro _ _ ⟨rfl, rfl⟩
      (refine CX.nil ?_; refine CQ.thenK ?_; apply hK; (· exact selA); clear hK K)
      refine hqk ?_
      refine CP.act ?_
      intro K hK
      (apply CX.storeAll; (· rfl); (· rfl); (· rfl); (· first | exact pickA | exact updA); (· exact hw3.len); (· exact WB_z.len); (· exact one_cb _))
      (refine CX.nil ?_; refine CQ.thenK ?_; apply hK; (· exact selA); clear hK K)
      refine hqk ?_
      exact CQ.joined q8 trivial ⟨rfl, rfl, rfl, rfl, rfl, trivial⟩ (by exact selA)
  · intro q8 _
    generalize putH (J.n + 1) k = u at *
    by_cases hu : u.2 = 0
    rotate_left
    · rw [if_pos hu]
      refine wk ?_
      ((apply CQ.end1; (· rfl); (· exact .tmp rfl)); (· exact ⟨rfl, rfl⟩); (· exact selA))
    rw [if_neg (by simp [hu]), hu]
    refine wk ?_
    refine CC.draw [(0, 0), (1, 0), (2, 0), (3, 1), (4, 1), (5, 1), (7, 1), (6, 2), (8, 2), (9, 0)] mixed rfl (by kernel_rfl) (by kernel_rfl) [bk p 123 (jrc d J), bk q5 59 (cb o.1), bk q6 59 (cb o.2.1), bk q8 59 (cb u.1)] ?_
    refine hwk ?_
    (apply CH.read; (· rfl); (· apply PS.loadG (vs := cb o.1); (· rfl); (· rfl); (· exact CellsAt.all (by first | exact pickA | exact updA)); (· exact hw1.len)); (· exact selA))
    (apply CH.read; (· rfl); (· apply PS.loadG (vs := cb o.2.1); (· rfl); (· rfl); (· exact CellsAt.all (by first | exact pickA | exact updA)); (· exact hw2.len)); (· exact selA))
    (apply CH.read; (· rfl); (· apply PS.loadG (vs := cb u.1); (· rfl); (· rfl); (· exact CellsAt.all (by first | exact pickA | exact updA)); (· exact hw3.len)); (· exact selA))
    refine CH.chain rfl fun K hK => ?_
    refine CX.callA (snext_c o.1 o.2.1 hw1 hw2) ?_
    rintro _ _ ⟨rfl, rfl⟩
    (refine CX.nil ?_; refine CQ.thenK ?_; apply hK; (· exact selA); clear hK K)
    refine CH.chain rfl fun K hK => ?_
    refine CX.callA (write_c d D (nextM o.1 o.2.1) u.1 hw3 h hN) ?_
    rintro _ _ ⟨rfl, rfl⟩
    (refine CX.nil ?_; refine CQ.thenK ?_; apply hK; (· exact selA); clear hK K)
    refine hwk ?_
    refine wk ?_
    ((apply CQ.end1; (· rfl); (· exact .tmp rfl)); (· exact ⟨rfl, rfl⟩); (· exact selA))
end Go.Proofs.YtlckhaodecdbbaaGreatDoor
/-! What the journal lays (run, lay), in the program. -/
namespace Go.Cx
/-- A step that the journal runs: a function value, and what it does to the disk. -/
def StepOk (P : Program) (H : DS → List Assn) (v : Value) (f : DS → Int × DS) (pre : PH → Prop) : Prop :=
  ∃ (k : FuncId) (first cap : List Value), v = .func (.func k) first.toArray cap.toArray ∧ HasFn P k ∧ ∀ N D, D.wf N → N < 999990 → (f D).2.wf (N + 1) ∧ Ctr P k (first ++ cap) (H D) pre (fun u M => u = .int .i64 (f D).1 ∧ M = H (f D).2)
theorem Ctr.frame1 {P : Program} {f : FuncId} {args : List Value} {A B : Assn} {post : Value → List Assn → Prop} (S : Ctr P f args [B] (fun _ => True) post) : Ctr P f args [A, B] (fun _ => True) (fun v M => ∃ M', post v M' ∧ M = M' ++ [A]) := by
  intro x w hs _
  have hs2 : Sep ([B] ++ [A, exact x]) w.ph := Sep.swap hs
  obtain ⟨y, hy, hl⟩ := hs2.rest
  refine (S y w hy trivial).mono ?_
  rintro e w' ⟨v, M, hp, rfl, hs', he⟩
  refine ⟨v, M ++ [A], ⟨M, hp, rfl⟩, rfl, ?_, he⟩
  rw [List.append_assoc]
  exact hs'.unrest hl
theorem cell_rdx1 {L L' : List Assn} {x : PH} {b : Nat} {v : Value} (p : Pick (exact x) L L') (h : rdx (some ⟨b, 0, none⟩) 1 [v] x) : CellAt L b 0 v := by
  rcases h with h | ⟨g, off, cs, t, fr, e, hx, hc⟩
  · omega
  · simp only [Option.some.injEq, Addr.mk.injEq, and_true] at e
    obtain ⟨rfl, rfl⟩ := e
    exact CellAt.exact p ⟨cs, t, fr, hx, by simpa using hc 0 v rfl⟩
theorem cells_rdxN {L L' : List Assn} {x : PH} {b n : Nat} {vs : List Value} (p : Pick (exact x) L L') (h0 : 0 < n) (h : rdx (some ⟨b, 0, none⟩) n vs x) : CellsAt L b 0 vs := by
  rcases h with h | ⟨g, off, cs, t, fr, e, hx, hc⟩
  · omega
  · simp only [Option.some.injEq, Addr.mk.injEq, and_true] at e
    obtain ⟨rfl, rfl⟩ := e
    exact CellsAt.exact p ⟨cs, t, fr, hx, hc⟩
/-- The boxes of what is written: the numbers, and the blocks. -/
def bxAt (bs : List (Nat × Nat)) (l : List Blk) (h : PH) : Prop := ∀ j (hj : j < bs.length), rdx (some ⟨bs[j].1, 0, none⟩) 1 [.int .i64 (j : Int)] h ∧ rdx (some ⟨bs[j].2, 0, none⟩) 128 (cb (l.getD j [])) h
theorem bxAt_mono {bs : List (Nat × Nat)} {l : List Blk} {x y : PH} (h : bxAt bs l x) (k : Le x y) : bxAt bs l y := fun j hj => ⟨rdx_mono (h j hj).1 k, rdx_mono (h j hj).2 k⟩
@[irreducible] def bxA (bs : List (Nat × Nat)) (l : List Blk) : Assn where
  ok h := bxAt bs l h
  mono := fun _ _ k e => bxAt_mono e k
theorem bxA_ok {bs : List (Nat × Nat)} {l : List Blk} {h : PH} : (bxA bs l).ok h ↔ bxAt bs l h := by
  unfold bxA; exact Iff.rfl
theorem bk_at {b t : Nat} {cs : List Value} {h : PH} (s : (bk b t cs).ok h) : rdx (some ⟨b, 0, none⟩) cs.length cs h :=
  .inr ⟨b, 0, _, _, _, rfl, bk_ok.1 s, fun j u hu => by simpa using hu⟩
theorem Sep.merge3 {A B C E : Assn} {L : List Assn} (hC : ∀ k, A.ok k → B.ok k → C.ok k → E.ok k) {h : PH} (s : Sep (A :: B :: C :: L) h) : Sep (E :: L) h := by
  obtain ⟨S, a, b⟩ := Sep.append (H := [A, B, C]) s
  exact ⟨S, hC _ a.head a.tail.head a.tail.tail.head, b⟩
section
variable {P : Program} {ops : Array Oper} {Q : Exit → Act → World → Prop} {n : Nat} {e0 : World} {env : Env} {L L' : List Assn} {rest : List Oper}
variable {dst : Option Tmp} {ty : TypeId} {pos : String} {aft : Array Edge} {g : Option (Nat × Bool)}
theorem CX.merge3 {A B C : Assn} {M1 M2 M3 : List Assn} (E : Assn) (hC : ∀ k, A.ok k → B.ok k → C.ok k → E.ok k) (h : CX P ops Q n e0 env (E :: M3) rest) (p : Pick A L M1 := by first | exact pickA | exact updA) (q : Pick B M1 M2 := by first | exact pickA | exact updA) (r : Pick C M2 M3 := by first | exact pickA | exact updA) : CX P ops Q n e0 env L rest :=
  CX.mem (fun _ s => Sep.merge3 hC (Sep.cons_mono (fun _ t => Sep.cons_mono (fun _ => r.sep) (q.sep t)) (p.sep s))) h
theorem CX.callS {H : DS → List Assn} {v : Value} {f : DS → Int × DS} {pre : PH → Prop} {y : Operand} {N : Nat} {D : DS} (S : StepOk P H v f pre) (hw : D.wf N) (hN : N < 999990)
    (h : (f D).2.wf (N + 1) → CX P ops Q n e0 (putE env dst (.int .i64 (f D).1)) (H (f D).2 ++ L') rest) (hy : ev n env y = some v) (hsel : Sel L (H D) L') (hpre : ∀ x, Sep L' x → pre x) (hg : gd ops n env g = some true := by rfl) :
    CX P ops Q n e0 env L (⟨dst, .call ⟨.value y, #[], #[]⟩, ty, pos, aft, g⟩ :: rest) := by
  obtain ⟨k, first, cap, rfl, inst, hS⟩ := S
  obtain ⟨hwf, hc⟩ := hS N D hw hN
  refine @CX.callV P ops Q n e0 env L rest dst ty pos aft g k inst y first.toArray cap.toArray [] #[] [] (H D) L' pre _ hg hy rfl (by simpa using hc) hsel hpre ?_
  rintro u M ⟨rfl, rfl⟩
  exact h hwf
end
end Go.Cx
namespace Go.Proofs.YtlckhaodecdbbaaGreatDoor
open Go.Cx
attribute [local irreducible] Go.Cx.CX Go.Cx.CC Go.Cx.CQ Go.Cx.PS Go.Cx.Ctr Go.Cx.CH
set_option maxRecDepth 10000
theorem jlay1_c (p d : Nat) (J : JM) (b4 b5 q10 q11 : Nat) (at_ i : Nat) (hat : at_ ≤ 1000000) (hi : i ≤ 1000000) (b : Blk) (hb : WB b) (D : DS) {N : Nat} (h : D.wf N) (hN : N < 1000000) :
    Ctr Tryz.prog 114 [.pointer (some ⟨b4, 0, none⟩), .pointer (some ⟨b5, 0, none⟩), .pointer (some ⟨q10, 0, none⟩), .pointer (some ⟨q11, 0, none⟩)] [bk p 123 (jrc d J), disk d D]
      (fun x => rdx (some ⟨b4, 0, none⟩) 1 [.pointer (some ⟨p, 0, none⟩)] x ∧ rdx (some ⟨b5, 0, none⟩) 1 [.int .i64 (at_ : Int)] x ∧ rdx (some ⟨q10, 0, none⟩) 1 [.int .i64 (i : Int)] x ∧ rdx (some ⟨q11, 0, none⟩) 128 (cb b) x)
      (fun v M => v = .int .i64 (D.write ((at_ : Int) + (i : Int)) b).1 ∧ M = [bk p 123 (jrc d J), disk d (D.write ((at_ : Int) + (i : Int)) b).2]) := by
  refine Ctr.intro Tryz.func114 rfl Tryz.ntmps114 rfl fun x w hp => ?_
  obtain ⟨hp1, hp2, hp3, hp4⟩ := hp
  refine wk ?_
  refine CC.draw [(0, 1), (1, 0), (2, 0), (3, 1), (4, 1), (5, 1), (6, 0), (7, 1), (8, 2), (9, 0)] mixed rfl (by kernel_rfl) (by kernel_rfl) [bk p 123 (jrc d J), exact x] ?_
  (apply CH.read; (· rfl); (· apply PS.load (v := .pointer (some ⟨p, 0, none⟩)); (· rfl); (· rfl); (· exact cell_rdx1 (by first | exact pickA | exact updA) hp1)); (· exact selA))
  refine hwk ?_
  (apply CH.read; (· rfl); (· apply PS.load (v := .int .i64 (at_ : Int)); (· rfl); (· rfl); (· exact cell_rdx1 (by first | exact pickA | exact updA) hp2)); (· exact selA))
  (apply CH.read; (· rfl); (· apply PS.load (v := .int .i64 (i : Int)); (· rfl); (· rfl); (· exact cell_rdx1 (by first | exact pickA | exact updA) hp3)); (· exact selA))
  refine hwk ?_
  (apply CH.read; (· rfl); (· apply PS.loadG (vs := cb b); (· rfl); (· rfl); (· exact cells_rdxN (by first | exact pickA | exact updA) (by decide) hp4); (· exact hb.len)); (· exact selA))
  refine CH.chain rfl fun K hK => ?_
  refine CX.callA (write_c d D ((at_ : Int) + (i : Int)) b hb h hN) ?_
  rintro _ _ ⟨rfl, rfl⟩
  (refine CX.nil ?_; refine CQ.thenK ?_; apply hK; (· exact selA); clear hK K)
  refine hwk ?_
  refine wk ?_
  ((apply CQ.end1; (· rfl); (· exact .tmp rfl)); (· exact ⟨rfl, rfl⟩); (· exact selA))
theorem jlay2_c (p d : Nat) (J : JM) (hJ : J.n < 4611686018427387904) (b4 b7 : Nat) (k : HdM) (hk : k.ok) (D : DS) {N : Nat} (h : D.wf N) (hN : N < 1000000) :
    Ctr Tryz.prog 117 [.pointer (some ⟨b4, 0, none⟩), .pointer (some ⟨b7, 0, none⟩)] [bk p 123 (jrc d J), disk d D]
      (fun x => rdx (some ⟨b4, 0, none⟩) 1 [.pointer (some ⟨p, 0, none⟩)] x ∧ rdx (some ⟨b7, 0, none⟩) 3 (hc k) x)
      (fun v M => v = .int .i64 (markM J k D).1 ∧ M = [bk p 123 (jrc d J), disk d (markM J k D).2]) := by
  refine Ctr.intro Tryz.func117 rfl Tryz.ntmps117 rfl fun x w hp => ?_
  obtain ⟨hp1, hp2⟩ := hp
  refine wk ?_
  (apply CX.ps; (· apply PS.load (v := .pointer (some ⟨p, 0, none⟩)); (· rfl); (· rfl); (· exact cell_rdx1 (by first | exact pickA | exact updA) hp1)))
  (apply CX.ps; (· apply PS.loadG (vs := hc k); (· rfl); (· rfl); (· exact cells_rdxN (by first | exact pickA | exact updA) (by decide) hp2); (· rfl)))
  refine CX.callA (jmark_c p d J hJ k hk D h hN) ?_
  rintro _ _ ⟨rfl, rfl⟩
  refine wk ?_
  ((apply CQ.end1; (· rfl); (· exact .tmp rfl)); (· exact ⟨rfl, rfl⟩); (· exact selA))
theorem jrun_c (H : DS → List Assn) (hH : ∃ p d J, H = fun D => [bk p 123 (jrc d J), disk d D]) (ss : List (Value × (DS → Int × DS))) (a : Option Addr) (c : Nat) (pre : PH → Prop) (hmono : ∀ x y, Le x y → pre x → pre y) (hs : ∀ s ∈ ss, StepOk Tryz.prog H s.1 s.2 pre) (D : DS) {N : Nat} (h : D.wf N) (hN : N + ss.length < 999990) :
    Ctr Tryz.prog 119 [.slice a ss.length c] (H D) (fun x => rdx a ss.length (ss.map (·.1)) x ∧ pre x) (fun v M => v = .int .i64 (runM (ss.map (·.2)) D).1 ∧ M = H (runM (ss.map (·.2)) D).2 ∧ (runM (ss.map (·.2)) D).2.wf (N + ss.length)) := by
  obtain ⟨p, d, J, rfl⟩ := hH
  refine Ctr.intro Tryz.func119 rfl Tryz.ntmps119 rfl fun x w hp => ?_
  obtain ⟨hp1, hp2⟩ := hp
  dsimp only
  refine wk ?_
  refine CC.loop (X := Nat × DS) (fun s => [(8, .int .i64 (s.1 : Int)), (7, .int .i64 (ss.length : Int)), (6, .slice a ss.length c)])
    (fun s => [bk p 123 (jrc d J), disk d s.2, exact x]) (fun s => s.1 ≤ ss.length ∧ s.2.wf (N + s.1) ∧ runM (ss.map (·.2)) D = runM ((ss.drop s.1).map (·.2)) s.2) (fun s => ss.length - s.1) (0, D) ⟨Nat.zero_le _, h, rfl⟩ ⟨rfl, rfl, rfl, trivial⟩ (by exact selA) ?_
  rintro ⟨i, E⟩ ⟨hi, hE, hrun⟩
  dsimp only at hi hE hrun ⊢
  by_cases h1 : i < ss.length
  · obtain ⟨g, off, rfl⟩ := rdx_some hp1 (by omega)
    rw [List.drop_eq_getElem_cons h1, List.map_cons, runM] at hrun
    have hst := hs ss[i] (List.getElem_mem h1)
    have hcell : ∀ (L L' : List Assn), Pick (exact x) L L' → CellAt L g (off + i * 1) (ss[i]).1 := fun L L' pk y hy => by
      rcases hp1 with hp1 | ⟨g', off', cs, t, fr, e, hx, hc⟩
      · omega
      · simp only [Option.some.injEq, Addr.mk.injEq, and_true] at e
        obtain ⟨rfl, rfl⟩ := e
        exact ⟨cs, t, fr, pk.ok hy _ _ hx, by rw [Nat.mul_one]; exact hc i _ (by simp [h1])⟩
    generalize ss[i] = s at *
    refine wk ?_
    (refine CX.indexA (i) ?_ ?_; (· exact h1))
    (apply CX.ps; (· apply PS.load (v := s.1); (· rfl); (· rfl); (· exact hcell _ _ (by first | exact pickA | exact updA))))
    refine wk ?_
    refine CX.callS hst hE (by omega) ?_ rfl (by exact selA) (fun y hy => hmono x y (Pick.ok (show Pick (exact x) _ _ from by first | exact pickA | exact updA) hy) hp2)
    intro hwf
    by_cases he : (s.2 E).1 = 0
    · rw [if_neg (by simp [he])] at hrun
      rw [he]
      refine wk ?_
      exact CQ.round (x := (i, E)) (i + 1, (s.2 E).2) ⟨by dsimp only; omega, by dsimp only; rw [← Nat.add_assoc]; exact hwf, hrun⟩ (by dsimp only; omega) ⟨eqI (by simp), rfl, rfl, trivial⟩ (by exact selA)
    · rw [if_pos he] at hrun
      rw [hrun]
      refine wk ?_
      (apply CQ.end1; (· rfl); (· exact .tmp rfl))
      · exact ⟨rfl, rfl, wf_up hwf (by omega)⟩
      · exact selA
  · obtain rfl : i = ss.length := by omega
    rw [List.drop_length, List.map_nil, runM] at hrun
    rw [hrun]
    refine wk ?_
    (apply CQ.end1; (· rfl); (· exact .tmp rfl))
    · exact ⟨rfl, rfl, hE⟩
    · exact selA
end Go.Proofs.YtlckhaodecdbbaaGreatDoor
/-! What the journal lays (lay), in the program. -/
namespace Go.Cx
theorem bx_snoc {bs : List (Nat × Nat)} {l : List Blk} {t1 t2 q10 q11 i : Nat} {b : Blk} (hw : WB b) (hbs : bs.length = i) (hi : l.getD i [] = b) (h : PH) (s : (bxA bs l).ok h) (k1 : (bk q10 t1 [.int .i64 (i : Int)]).ok h) (k2 : (bk q11 t2 (cb b)).ok h) : (bxA (bs ++ [(q10, q11)]) l).ok h := bxA_ok.2 fun j hj => by
  have s' := bxA_ok.1 s
  by_cases e : j < bs.length
  · rw [List.getElem_append_left e]; exact s' j e
  · have ej : j = i := by rw [List.length_append, List.length_singleton] at hj; omega
    have eg : (bs ++ [(q10, q11)])[j] = (q10, q11) := by rw [List.getElem_append_right (by omega)]; simp
    rw [eg]
    refine ⟨?_, ?_⟩
    · have := bk_at k1; rw [ej]; exact this
    · have := bk_at k2; rw [hw.len] at this; rw [ej, hi]; exact this
theorem rdx_bkok {b t n : Nat} {cs : List Value} {L L' : List Assn} (p : Pick (bk b t cs) L L') (hn : cs.length = n) : ∀ y, Sep L y → rdx (some ⟨b, 0, none⟩) n cs y := fun y hy => by
  have := bk_at (p.ok hy); rwa [hn] at this
theorem layS_len (J : JM) (at_ : Nat) (l : List Blk) (h : HdM) : (layS J at_ l h).length = l.length + 3 := by simp [layS, writesM]
end Go.Cx
namespace Go.Proofs.YtlckhaodecdbbaaGreatDoor
open Go.Cx
attribute [local irreducible] Go.Cx.CX Go.Cx.CC Go.Cx.CQ Go.Cx.PS Go.Cx.Ctr Go.Cx.CH
set_option maxRecDepth 10000
def stepV (b4 b5 : Nat) (q : Nat × Nat) : Value := .func (.func 114) #[] #[.pointer (some ⟨b4, 0, none⟩), .pointer (some ⟨b5, 0, none⟩), .pointer (some ⟨q.1, 0, none⟩), .pointer (some ⟨q.2, 0, none⟩)]
def flV (d : Nat) : Value := .func (.func 116) #[.pointer (some ⟨d, 0, none⟩)] #[]
def mkV (b4 b7 : Nat) : Value := .func (.func 117) #[] #[.pointer (some ⟨b4, 0, none⟩), .pointer (some ⟨b7, 0, none⟩)]
theorem one_steps (b4 b5 b7 d : Nat) (bs : List (Nat × Nat)) : ∀ u ∈ bs.map (stepV b4 b5) ++ [flV d, mkV b4 b7, flV d], u.oneCell' = true := fun u hu => by
  rcases List.mem_append.1 hu with hu | hu
  · obtain ⟨q, _, rfl⟩ := List.mem_map.1 hu; rfl
  · simp only [List.mem_cons, List.not_mem_nil, or_false] at hu
    rcases hu with rfl | rfl | rfl <;> rfl
/-- What the steps read. -/
def stPre (p b4 b5 b7 at_ : Nat) (k : HdM) (bs : List (Nat × Nat)) (l : List Blk) (x : PH) : Prop :=
  rdx (some ⟨b4, 0, none⟩) 1 [.pointer (some ⟨p, 0, none⟩)] x ∧ rdx (some ⟨b5, 0, none⟩) 1 [.int .i64 (at_ : Int)] x ∧ rdx (some ⟨b7, 0, none⟩) 3 (hc k) x ∧ bxAt bs l x
theorem stPre_mono {p b4 b5 b7 at_ : Nat} {k : HdM} {bs : List (Nat × Nat)} {l : List Blk} (x y : PH) (h : Le x y) (s : stPre p b4 b5 b7 at_ k bs l x) : stPre p b4 b5 b7 at_ k bs l y :=
  ⟨rdx_mono s.1 h, rdx_mono s.2.1 h, rdx_mono s.2.2.1 h, bxAt_mono s.2.2.2 h⟩
theorem Ctr.weakPre {f : FuncId} {args : List Value} {H : List Assn} {pre : PH → Prop} {post : Value → List Assn → Prop} (S : Ctr Tryz.prog f args H (fun _ => True) post) : Ctr Tryz.prog f args H pre post := Ctr.mono S (fun _ _ => trivial) (fun _ _ h => h)
theorem steps_ok (p d b4 b5 b7 at_ : Nat) (J : JM) (hJ : J.n < 4611686018427387904) (k : HdM) (hk : k.ok) (bs : List (Nat × Nat)) (l : List Blk) (hW : ∀ b ∈ l, WB b) (hbs : bs.length = l.length) (hat : at_ ≤ 1000000) (hll : l.length ≤ 5000) :
    ∀ s ∈ (bs.map (stepV b4 b5) ++ [flV d, mkV b4 b7, flV d]).zip (layS J at_ l k), StepOk Tryz.prog (fun D => [bk p 123 (jrc d J), disk d D]) s.1 s.2 (stPre p b4 b5 b7 at_ k bs l) := by
  intro s hs
  have hfl : StepOk Tryz.prog (fun D => [bk p 123 (jrc d J), disk d D]) (flV d) DS.flush (stPre p b4 b5 b7 at_ k bs l) :=
    ⟨116, [.pointer (some ⟨d, 0, none⟩)], [], rfl, inferInstance, fun N D h hN => ⟨flush_wf h, Ctr.conseq (Ctr.weakPre (Ctr.frame1 (flush_c d D h (by omega)))) fun v M hv => by
      obtain ⟨M', ⟨rfl, rfl⟩, rfl⟩ := hv
      exact ⟨_, ⟨rfl, rfl⟩, fun x h hs => Sep.swap hs⟩⟩⟩
  have hmk : StepOk Tryz.prog (fun D => [bk p 123 (jrc d J), disk d D]) (mkV b4 b7) (markM J k) (stPre p b4 b5 b7 at_ k bs l) :=
    ⟨117, [], [.pointer (some ⟨b4, 0, none⟩), .pointer (some ⟨b7, 0, none⟩)], rfl, inferInstance, fun N D h hN => ⟨mark_wf h, Ctr.mono (jlay2_c p d J hJ b4 b7 k hk D h (by omega)) (fun x hx => ⟨hx.1, hx.2.2.1⟩) (fun _ _ h => h)⟩⟩
  obtain ⟨i, hi, rfl⟩ := List.getElem_of_mem hs
  rw [List.getElem_zip]
  have hi2 : i < l.length + 3 := by simp [layS_len, hbs] at hi; omega
  have hlw : (writesM at_ l).length = l.length := by simp [writesM]
  by_cases h1 : i < l.length
  · have e1 : (bs.map (stepV b4 b5) ++ [flV d, mkV b4 b7, flV d])[i]'(by simp; omega) = stepV b4 b5 (bs[i]'(by omega)) := by
      rw [List.getElem_append_left (by simpa [hbs] using h1)]; simp
    have e2 : (layS J at_ l k)[i]'(by rw [layS_len]; omega) = fun D => D.write ((at_ : Int) + (i : Int)) l[i] := by
      simp only [layS]
      rw [List.getElem_append_left (by rw [hlw]; exact h1)]
      simp [writesM, h1]
    rw [e1, e2]
    have hb := hW l[i] (List.getElem_mem h1)
    refine ⟨114, [], [.pointer (some ⟨b4, 0, none⟩), .pointer (some ⟨b5, 0, none⟩), .pointer (some ⟨(bs[i]'(by omega)).1, 0, none⟩), .pointer (some ⟨(bs[i]'(by omega)).2, 0, none⟩)], rfl, inferInstance, fun N D h hN => ⟨write_wf h _ hb, Ctr.mono (jlay1_c p d J b4 b5 _ _ at_ i hat (by omega) l[i] hb D h (by omega)) (fun x hx => ⟨hx.1, hx.2.1, ?_⟩) (fun _ _ h => h)⟩⟩
    have := hx.2.2.2 i (by omega)
    have eg : l.getD i [] = l[i] := by simp [List.getD, h1]
    rw [eg] at this
    exact this
  · obtain ⟨j, rfl⟩ : ∃ j, i = l.length + j := ⟨i - l.length, by omega⟩
    have hj : j < 3 := by omega
    have e1 : (bs.map (stepV b4 b5) ++ [flV d, mkV b4 b7, flV d])[l.length + j]'(by simp; omega) = [flV d, mkV b4 b7, flV d][j] := by
      rw [List.getElem_append_right (by simp; omega)]; simp [hbs]
    have e2 : (layS J at_ l k)[l.length + j]'(by rw [layS_len]; omega) = [DS.flush, markM J k, DS.flush][j] := by
      simp only [layS]
      rw [List.getElem_append_right (by omega)]; simp [hlw]
    rw [e1, e2]
    match j, hj with
    | 0, _ => exact hfl
    | 1, _ => exact hmk
    | 2, _ => exact hfl
theorem jlay_c (p d : Nat) (J : JM) (hJ : J.n < 4611686018427387904) (at_ : Nat) (hat : at_ ≤ 1000000) (l : List Blk) (hW : ∀ b ∈ l, WB b) (hll : l.length ≤ 5000) (a : Option Addr) (c : Nat) (k : HdM) (hk : k.ok) (D : DS) {N : Nat} (h : D.wf N) (hN : N + l.length + 3 < 999990) :
    Ctr Tryz.prog 73 [.pointer (some ⟨p, 0, none⟩), .int .i64 (at_ : Int), .slice a l.length c, .agg (hc k).toArray] [bk p 123 (jrc d J), disk d D] (fun x => rdx a (l.length * 128) (flat l) x)
    (fun v M => v = .int .i64 (layM J at_ l k D).1 ∧ M = [bk p 123 (jrc d (layM J at_ l k D).2.1), disk d (layM J at_ l k D).2.2] ∧ (layM J at_ l k D).2.2.wf (N + l.length + 3)) := by
  refine Ctr.intro Tryz.func73 rfl Tryz.ntmps73 rfl fun x w hp => ?_
  refine wk ?_
  (apply CX.box; (· rfl); (· rfl); intro b4)
  (apply CX.box; (· rfl); (· rfl); intro b5)
  (refine CX.boxA (vs := hc k) ?_; intro b7)
  refine wk ?_
  refine CC.ownNil 168 1 ?_
  refine CC.give (bxA [] l) (fun _ => bxA_ok.2 fun j hj => by simp at hj) ?_
  refine CC.loop (X := Nat × Option Addr × Nat × List (Nat × Nat)) (fun s => [(15, .int .i64 (s.1 : Int)), (14, .int .i64 (l.length : Int)), (13, .slice a l.length c), (4, .pointer (some ⟨b4, 0, none⟩)), (5, .pointer (some ⟨b5, 0, none⟩)), (7, .pointer (some ⟨b7, 0, none⟩)), (9, .slice s.2.1 s.1 s.2.2.1)])
    (fun s => [own 168 1 s.2.1 s.1 s.2.2.1 (s.2.2.2.map (stepV b4 b5)), bxA s.2.2.2 l, bk p 123 (jrc d J), disk d D, bk b4 77 [.pointer (some ⟨p, 0, none⟩)], bk b5 3 [.int .i64 (at_ : Int)], bk b7 121 (hc k), exact x])
    (fun s => s.1 ≤ l.length ∧ s.2.2.2.length = s.1) (fun s => l.length - s.1) (0, none, 0, []) ⟨Nat.zero_le _, rfl⟩ ⟨rfl, rfl, rfl, rfl, rfl, rfl, rfl, trivial⟩ (by exact selA) ?_
  rintro ⟨i, a9, c9, bs⟩ ⟨hi, hbs⟩
  dsimp only at hi hbs ⊢
  by_cases h1 : i < l.length
  · obtain ⟨g, off, rfl⟩ := rdx_some hp (by omega)
    have hb := hW l[i] (List.getElem_mem h1)
    have eg : l.getD i [] = l[i] := by simp [List.getD, h1]
    refine wk ?_
    (refine CX.indexA (i) ?_ ?_; (· exact h1))
    (apply CX.ps; (· apply PS.loadG (vs := cb l[i]); (· rfl); (· rfl); (· exact CellsAt.row (by first | exact pickA | exact updA) hp (by omega) (fun y hy => (hW y hy).len) h1); (· exact hb.len)))
    refine CX.allocZ [.int .i64 0] ?_ (hv := rfl)
    intro q10
    refine CX.allocZ (cb zblk) ?_
    intro q11
    refine CX.storeA ?_
    (apply CX.storeAll; (· rfl); (· rfl); (· rfl); (· first | exact pickA | exact updA); (· exact hb.len); (· exact WB_z.len); (· exact one_cb _))
    refine wk ?_
    refine CX.merge3 (bxA (bs ++ [(q10, q11)]) l) (bx_snoc (t1 := 3) (t2 := 59) (i := i) hb hbs eg) ?_
    refine CX.buildSl (parts := [(0, _)]) (vs := [(0, stepV b4 b5 (q10, q11))]) (out := [stepV b4 b5 (q10, q11)]) rfl rfl (by decide) (by simp [fillL, Value.cells, setL, stepV]) fun bq => ?_
    refine CX.append (m := 1) (news := [stepV b4 b5 (q10, q11)]) rfl rfl rfl (by first | exact pickA | exact updA) (RdS.pick (b := bq) (o := 0) (by first | exact pickA | exact updA) rfl (one_all rfl) rfl) (by omega) (fun h => by cases h) ?_
    intro a3 c3
    refine wk ?_
    exact CQ.round (x := (i, a9, c9, bs)) (i + 1, a3, c3, bs ++ [(q10, q11)]) ⟨by dsimp only; omega, by simp [hbs]⟩ (by dsimp only; omega) ⟨eqI (by simp), rfl, rfl, rfl, rfl, rfl, rfl, trivial⟩ (by simp only [List.map_append, List.map_cons, List.map_nil]; exact selA)
  obtain rfl : i = l.length := by omega
  refine wk ?_
  refine CC.draw [(0, 0), (1, 1), (2, 0), (3, 0), (4, 1), (5, 0), (6, 0), (7, 1), (8, 0), (9, 0), (10, 1), (11, 0), (12, 2), (13, 2), (14, 0)] mixed rfl (by kernel_rfl) (by kernel_rfl) [bk p 123 (jrc d J), bk b4 77 [.pointer (some ⟨p, 0, none⟩)]] ?_
  refine hwk ?_
  refine CH.chain rfl fun K hK => ?_
  refine CX.buildSl (parts := [(0, _), (1, _), (2, _)]) (vs := [(0, flV d), (1, mkV b4 b7), (2, flV d)]) (out := [flV d, mkV b4 b7, flV d]) rfl rfl (by decide) (by simp [fillL, Value.cells, setL, flV, mkV]) fun bq => ?_
  (refine CX.nil ?_; refine CQ.thenK ?_; apply hK; (· exact selA); clear hK K)
  refine CH.chain rfl fun K hK => ?_
  refine CX.append (m := 3) (news := [flV d, mkV b4 b7, flV d]) rfl rfl rfl (by first | exact pickA | exact updA) (RdS.pick (b := bq) (o := 0) (by first | exact pickA | exact updA) rfl (one_all rfl) rfl) (by omega) (fun h => by cases h) ?_
  intro a10 c10
  (refine CX.nil ?_; refine CQ.thenK ?_; apply hK; (· exact selA); clear hK K)
  refine hwk ?_
  have hrun := jrun_c (fun D => [bk p 123 (jrc d J), disk d D]) ⟨p, d, J, rfl⟩ ((bs.map (stepV b4 b5) ++ [flV d, mkV b4 b7, flV d]).zip (layS J at_ l k)) a10 c10 (stPre p b4 b5 b7 at_ k bs l) stPre_mono (steps_ok p d b4 b5 b7 at_ J hJ k hk bs l hW hbs hat hll) D h (by simp [layS_len, hbs]; omega)
  have hzl : ((bs.map (stepV b4 b5) ++ [flV d, mkV b4 b7, flV d]).zip (layS J at_ l k)).length = l.length + 3 := by simp [layS_len, hbs]
  rw [hzl, List.map_fst_zip (by simp [layS_len, hbs]), List.map_snd_zip (by simp [layS_len, hbs])] at hrun
  have hlay : layM J at_ l k D = if (runM (layS J at_ l k) D).1 ≠ 0 then ((runM (layS J at_ l k) D).1, J, (runM (layS J at_ l k) D).2) else (0, ⟨J.n + 1, k⟩, (runM (layS J at_ l k) D).2) := rfl
  generalize runM (layS J at_ l k) D = r at *
  generalize layM J at_ l k D = y at *
  refine wk ?_
  refine CX.callA (hrun) ?_ (hpre := by exact fun z hz => ⟨by have := own_rdx (Pick.ok (show Pick (own 168 1 a10 (l.length + 3) c10 (bs.map (stepV b4 b5) ++ [flV d, mkV b4 b7, flV d])) _ _ from by first | exact pickA | exact updA) hz) (one_steps b4 b5 b7 d bs); rwa [Nat.mul_one] at this, rdx_bkok (t := 77) (by first | exact pickA | exact updA) rfl z hz, rdx_bkok (t := 3) (by first | exact pickA | exact updA) rfl z hz, rdx_bkok (t := 121) (by first | exact pickA | exact updA) rfl z hz, bxA_ok.1 (Pick.ok (show Pick (bxA bs l) _ _ from by first | exact pickA | exact updA) hz)⟩)
  rintro _ _ ⟨rfl, rfl, hwf⟩
  by_cases he : r.1 = 0
  rotate_left
  · rw [if_pos he] at hlay
    subst hlay
    refine wk ?_
    (apply CQ.end1; (· rfl); (· exact .tmp rfl))
    · exact ⟨rfl, rfl, by rw [Nat.add_assoc]; exact hwf⟩
    · exact selA
  rw [if_neg (by simp [he])] at hlay
  subst hlay
  rw [he]
  refine wk ?_
  refine CC.draw [(0, 1), (1, 1), (2, 1), (7, 1), (3, 0), (4, 0), (5, 2), (6, 0), (8, 0), (9, 0), (10, 2), (11, 0), (12, 0), (13, 2)] mixed rfl (by kernel_rfl) (by kernel_rfl) [bk b4 77 [.pointer (some ⟨p, 0, none⟩)], bk b7 121 (hc k)] ?_
  refine hwk ?_
  (apply CH.read; (· rfl); (· apply PS.loadG (vs := hc k); (· rfl); (· rfl); (· exact CellsAt.all (by first | exact pickA | exact updA)); (· rfl)); (· exact selA))
  refine hwk ?_
  refine CH.chain rfl fun K hK => ?_
  refine CX.psA ?_
  (refine CX.nil ?_; refine CQ.thenK ?_; apply hK; (· exact selA); clear hK K)
  refine hwk ?_
  refine CH.chain rfl fun K hK => ?_
  refine CX.storeA ?_
  (refine CX.nil ?_; refine CQ.thenK ?_; apply hK; (· exact selA); clear hK K)
  refine hwk ?_
  refine CH.chain rfl fun K hK => ?_
  have e5 : setL ((jrc d J).set (0 + 1) (.int .u64 ((J.n : Int) + 1))) (0 + 2) (Value.agg (hc k).toArray).cells.toList = jrc d ⟨J.n + 1, k⟩ := by
    simp [jrc, setL, hc, Value.cells]
  refine CX.storeC (cs := (jrc d J).set (0 + 1) (.int .u64 ((J.n : Int) + 1))) (bt := 123) rfl rfl rfl rfl (one_all rfl) (by first | exact pickA | exact updA) (by simp [jrc, hc, Value.cells]) ?_
  rw [e5]
  (refine CX.nil ?_; refine CQ.thenK ?_; apply hK; (· exact selA); clear hK K)
  refine hwk ?_
  refine wk ?_
  (apply CQ.end1; (· rfl); (· exact .tmp rfl))
  · exact ⟨rfl, rfl, by rw [Nat.add_assoc]; exact hwf⟩
  · exact selA
end Go.Proofs.YtlckhaodecdbbaaGreatDoor
/-! What the journal reads (read), in the program. -/
namespace Go.Cx
/-- Bytes of slices, somewhere. -/
@[irreducible] def valS (l : List SlB) : Assn where
  ok h := ∀ r ∈ l, r.ok h
  mono := fun _ _ k e r hr => (e r hr).mono k
theorem valS_ok {l : List SlB} {h : PH} : (valS l).ok h ↔ ∀ r ∈ l, r.ok h := by
  unfold valS; exact Iff.rfl
def bsAt (a : Option Addr) (l : List SlB) (h : PH) : Prop := rdx a l.length (rows SlB.cells l) h ∧ ∀ r ∈ l, r.ok h
theorem bsAt_mono {a : Option Addr} {l : List SlB} {x y : PH} (h : bsAt a l x) (k : Le x y) : bsAt a l y := ⟨rdx_mono h.1 k, fun r hr => (h.2 r hr).mono k⟩
@[irreducible] def bsA (a : Option Addr) (l : List SlB) : Assn where
  ok h := bsAt a l h
  mono := fun _ _ k e => bsAt_mono e k
theorem bsA_ok {a : Option Addr} {l : List SlB} {h : PH} : (bsA a l).ok h ↔ bsAt a l h := by
  unfold bsA; exact Iff.rfl
theorem one_sl (l : List SlB) : ∀ u ∈ rows SlB.cells l, u.oneCell' = true := fun u hu => by
  simp only [rows, List.mem_flatten, List.mem_map] at hu
  obtain ⟨_, ⟨r, _, rfl⟩, hu⟩ := hu
  simp only [SlB.cells, List.mem_singleton] at hu
  subst hu; rfl
theorem own_bs {e c : Nat} {a : Option Addr} {l : List SlB} (h : PH) (s : (own e 1 a l.length c (rows SlB.cells l)).ok h) (t : (valS l).ok h) : (bsA a l).ok h := bsA_ok.2 ⟨by have := own_rdx s (one_sl l); rwa [Nat.mul_one] at this, valS_ok.1 t⟩
theorem bs_nil (k : PH) : (bsA none []).ok k := bsA_ok.2 ⟨.inl rfl, fun _ h => by cases h⟩
theorem valS_snoc {e c : Nat} {a : Option Addr} {b : Blk} {l : List SlB} (h : PH) (s : (valS l).ok h) (t : (own e 1 a b.length c (cb b)).ok h) : (valS (l ++ [⟨a, b, c⟩])).ok h := valS_ok.2 fun r hr => by
  rcases List.mem_append.1 hr with hr | hr
  · exact valS_ok.1 s r hr
  · obtain rfl := List.mem_singleton.1 hr
    exact own_SlB t
theorem rdx_cut {g o cap len l : Nat} {B : Blk} {y : PH} (h : rdx (some ⟨g, o, none⟩) len (cb B) y) (hl : len = B.length) (hlen : l ≤ len) (hc : len ≤ cap) : rdx (some ⟨g, if cap = l then o else o + l * 1, none⟩) (len - l) (cb (B.drop l)) y := by
  by_cases hcl : cap = l
  · exact .inl (by omega)
  · rw [if_neg hcl, Nat.mul_one]
    have := rdx_part rfl h hl l (len - l) (by omega)
    rwa [List.take_of_length_le (by simp; omega)] at this
theorem rdx_cut2 {g o cap len l m : Nat} {B : Blk} {y : PH} (h : rdx (some ⟨g, o, none⟩) len (cb B) y) (hl : len = B.length) (hlm : l ≤ m) (hm : m ≤ len) (hc : len ≤ cap) : rdx (cutAt (some ⟨g, o, none⟩) l cap 1) (m - l) (cb ((B.drop l).take (m - l))) y := by
  unfold cutAt
  by_cases hcl : cap = l
  · exact .inl (by omega)
  · rw [if_neg hcl]
    simp only [Option.map_some, addr_add, Nat.mul_one]
    exact rdx_part rfl h hl l (m - l) (by omega)
theorem own_rd {e n c : Nat} {a : Option Addr} {B : Blk} (h : PH) (s : (own e 1 a n c (cb B)).ok h) : (rd a n (cb B)).ok h := rd_ok.2 (by have := own_rdx s (one_cb B); rwa [Nat.mul_one] at this)
theorem upB_ge (n : Nat) : n ≤ upB n := by unfold upB; omega
theorem upB_le {n m : Nat} (h : n ≤ m) (hm : m % 128 = 0) : upB n ≤ m := by unfold upB; omega
end Go.Cx
namespace Go.Proofs.YtlckhaodecdbbaaGreatDoor
open Go.Cx
attribute [local irreducible] Go.Cx.CX Go.Cx.CC Go.Cx.CQ Go.Cx.PS Go.Cx.Ctr Go.Cx.CH
set_option maxRecDepth 10000
theorem read1_c (c : UInt8) : Ctr Tryz.prog 140 [.int .u8 (c.toNat : Int)] [] (fun _ => True) (fun v M => v = .bool (decide (c ≠ 0)) ∧ M = []) := by
  refine Ctr.intro Tryz.func140 rfl Tryz.ntmps140 rfl fun x w hp => ?_
  have e : decide (c ≠ 0) = decide ((c.toNat : Int) ≠ 0) := by
    refine decide_eq_decide.2 ⟨fun h => u8_ne h, fun h hc => h (u8_int hc)⟩
  rw [e]
  refine wk ?_
  ((apply CQ.end1; (· rfl); (· exact .tmp rfl)); (· exact ⟨rfl, rfl⟩); (· exact selA))
theorem idxB_c (C : Blk) (hl : C.length ≤ 9223372036854775806) (a : Option Addr) (cap : Nat) : Ctr Tryz.prog 168 [.slice a C.length cap, .func (.func 140) #[] #[]] [] (fun x => rdx a C.length (cb C) x) (fun v M => ∃ z : Int, v = .int .i64 z ∧ (0 ≤ z ↔ ∃ c ∈ C, c ≠ 0) ∧ M = []) := by
  refine Ctr.intro Tryz.func168 rfl Tryz.ntmps168 rfl fun x w hp => ?_
  refine wk ?_
  refine CC.loop (X := Nat) (fun i => [(8, .int .i64 (i : Int)), (7, .int .i64 (C.length : Int)), (0, .slice a C.length cap), (1, .func (.func 140) #[] #[])])
    (fun i => [exact x]) (fun i => i ≤ C.length ∧ ∀ j (hj : j < C.length), j < i → C[j] = 0) (fun i => C.length - i) 0 ⟨Nat.zero_le _, fun j h => by omega⟩ ⟨rfl, rfl, rfl, rfl, trivial⟩ (by exact selA) ?_
  rintro i ⟨hi, hpre⟩
  by_cases h1 : i < C.length
  · obtain ⟨g, off, rfl⟩ := rdx_some hp (by omega)
    by_cases h2 : C[i] = 0
    · refine wk ?_
      (refine CX.indexA (i) ?_ ?_; (· exact h1))
      (refine CX.loadA _ (CellAt.rd (j := i) (by first | exact pickA | exact updA) hp rfl h1) ?_)
      refine CX.callF (read1_c C[i]) ?_
      rw [decide_eq_false (fun h => h h2)]
      rintro _ _ ⟨rfl, rfl⟩
      refine wk ?_
      exact CQ.round (i + 1) ⟨by omega, fun j hj h => by
        by_cases e : j < i
        · exact hpre j hj e
        · obtain rfl : j = i := by omega
          exact h2⟩ (by omega) ⟨eqI (by omega), rfl, rfl, rfl, trivial⟩ (by exact selA)
    · refine wk ?_
      (refine CX.indexA (i) ?_ ?_; (· exact h1))
      (refine CX.loadA _ (CellAt.rd (j := i) (by first | exact pickA | exact updA) hp rfl h1) ?_)
      refine CX.callF (read1_c C[i]) ?_
      rw [decide_eq_true h2]
      rintro _ _ ⟨rfl, rfl⟩
      refine wk ?_
      (apply CQ.end1; (· rfl); (· exact .tmp rfl))
      · exact ⟨_, rfl, ⟨fun _ => ⟨C[i], List.getElem_mem h1, h2⟩, fun _ => by omega⟩, rfl⟩
      · exact selA
  · obtain rfl : i = C.length := by omega
    refine wk ?_
    (apply CQ.end1; (· rfl); (· exact .tmp rfl))
    · exact ⟨_, rfl, ⟨fun h => by omega, fun ⟨r, hr, hn⟩ => by
        obtain ⟨j, hj, rfl⟩ := List.getElem_of_mem hr
        exact absurd (hpre j hj hj) hn⟩, rfl⟩
    · exact selA
theorem conB_c (C : Blk) (hl : C.length ≤ 9223372036854775806) (a : Option Addr) (cap : Nat) : Ctr Tryz.prog 139 [.slice a C.length cap, .func (.func 140) #[] #[]] [] (fun x => rdx a C.length (cb C) x) (fun v M => v = .bool (decide (∃ c ∈ C, c ≠ 0)) ∧ M = []) := by
  refine Ctr.intro Tryz.func139 rfl Tryz.ntmps139 rfl fun x w hp => ?_
  refine wk ?_
  refine CX.callA (idxB_c C hl a cap) ?_ (hpre := by exact rdx_ex (by first | exact pickA | exact updA) hp)
  rintro _ _ ⟨z, rfl, hz, rfl⟩
  rw [show decide (∃ c ∈ C, c ≠ 0) = decide (0 ≤ z) from decide_eq_decide.2 hz.symm]
  refine wk ?_
  ((apply CQ.end1; (· rfl); (· exact .tmp rfl)); (· exact ⟨rfl, rfl⟩); (· exact selA))
end Go.Proofs.YtlckhaodecdbbaaGreatDoor
/-! What the journal reads (read), in the program. -/
namespace Go.Cx
theorem rdAll_err {D : DS} {f i n : Nat} {acc : Blk} (h : (D.read ((f : Int) + (i : Int))).2 ≠ 0) : rdAll D f i (n + 1) acc = ([], (D.read ((f : Int) + (i : Int))).2) := by rw [rdAll, if_pos h]
theorem rdAll_go {D : DS} {f i n : Nat} {acc : Blk} (h : (D.read ((f : Int) + (i : Int))).2 = 0) : rdAll D f i (n + 1) acc = rdAll D f (i + 1) n (acc ++ (D.read ((f : Int) + (i : Int))).1) := by rw [rdAll, if_neg (by simp [h])]
/-- What read gives. -/
def ReadP (p d tj : Nat) (dk : DS → Assn) (J : JM) (D : DS) (v : Value) (M : List Assn) : Prop :=
  ∃ a c l, l.map SlB.b = (readM J D).1 ∧ v = .tuple #[.slice a l.length c, .int .i64 (readM J D).2] ∧ M = [bk p tj (jrc d J), dk D, bsA a l] ∧ (a = none → l.length = 0 ∧ c = 0) ∧ l.length ≤ c
end Go.Cx
namespace Go.Proofs.YtlckhaodecdbbaaGreatDoor
open Go.Cx
attribute [local irreducible] Go.Cx.CX Go.Cx.CC Go.Cx.CQ Go.Cx.PS Go.Cx.Ctr Go.Cx.CH
set_option maxRecDepth 10000
def planR : Pl := .op 0 0 (.op 1 0 (.op 2 0 (.op 3 1 (.op 4 0 (.op 5 0 (.op 6 0 (.op 7 0 (.op 8 0 (.op 9 1 (.op 11 0 (.fork 10 17
  (.op 12 0 (.fork 13 17 (.op 14 0 (.op 15 0 (.op 16 0 (.op 17 2 (.op 18 2 (.op 19 0 .nil)))))) (.op 13 2 (.op 14 0 (.op 15 0 (.op 16 0 (.op 18 2 (.op 19 0 .nil))))))))
  (.op 10 2 (.op 12 0 (.op 13 2 (.op 14 0 (.op 15 0 (.op 16 0 (.op 18 2 (.op 19 0 .nil)))))))))))))))))))
set_option maxHeartbeats 1000000 in
theorem jread_c (p d : Nat) (J : JM) (hb : J.h.bank < 256) (hbt : J.h.batches < 4294967296) (hbk : J.h.blocks < 4294967296) (D : DS) {N : Nat} (h : D.wf N) (hN : N < 1000000) : Ctr Tryz.prog 94 [.pointer (some ⟨p, 0, none⟩)] [bk p 123 (jrc d J), disk d D] (fun _ => True)
    (ReadP p d 123 (disk d) J D) := by
  unfold ReadP
  have h2 := h.hi
  have hbank : bankM D ≤ 2048 := by unfold bankM; omega
  have hmul : J.h.bank * bankM D ≤ 256 * 2048 := Nat.mul_le_mul (by omega) hbank
  have hfst : firstM D J.h.bank ≤ 524290 := by unfold firstM; omega
  refine Ctr.intro Tryz.func94 rfl Tryz.ntmps94 rfl fun x w hp => ?_
  refine wk ?_
  refine CC.draw [(0, 0), (1, 0), (2, 0), (3, 0), (4, 1), (5, 0), (6, 0), (7, 2), (8, 0)] mixed rfl (by kernel_rfl) (by kernel_rfl) [bk p 123 (jrc d J)] ?_
  refine hwk ?_
  refine CH.chain rfl fun K hK => ?_
  refine CX.callA (jbank_c p d J D h) ?_
  rintro _ _ ⟨rfl, rfl⟩
  (refine CX.nil ?_; refine CQ.thenK ?_; apply hK; (· exact selA); clear hK K)
  by_cases h0 : bankM D < J.h.blocks
  · rw [show readM J D = ([], 5) by unfold readM; rw [if_pos h0]]
    refine hwk ?_
    refine wk ?_
    refine CQ.give (bsA none []) bs_nil ?_
    (apply CQ.end2; (· rfl); (· exact .tmp rfl); (· exact .tmp rfl))
    · exact ⟨none, 0, [], rfl, rfl, rfl, fun _ => ⟨rfl, rfl⟩, Nat.le_refl _⟩
    · exact selA
  have hrd : readM J D = if (rdAll D (firstM D J.h.bank) 0 J.h.blocks []).2 ≠ 0 then ([], (rdAll D (firstM D J.h.bank) 0 J.h.blocks []).2) else parseM J.h.batches [] (rdAll D (firstM D J.h.bank) 0 J.h.blocks []).1 := by
    unfold readM; rw [if_neg h0]
  refine hwk ?_
  refine wk ?_
  refine CC.ownNil 5 1 ?_
  refine CC.loop (X := Nat × Option Addr × Nat × Blk) (fun s => [(28, .int .i64 (s.1 : Int)), (27, .int .i64 (J.h.blocks : Int)), (0, .pointer (some ⟨p, 0, none⟩)), (4, .slice s.2.1 s.2.2.2.length s.2.2.1)])
    (fun s => [own 5 1 s.2.1 s.2.2.2.length s.2.2.1 (cb s.2.2.2), bk p 123 (jrc d J), disk d D, exact x])
    (fun s => s.1 ≤ J.h.blocks ∧ s.2.2.2.length = s.1 * 128 ∧ rdAll D (firstM D J.h.bank) 0 J.h.blocks [] = rdAll D (firstM D J.h.bank) s.1 (J.h.blocks - s.1) s.2.2.2) (fun s => J.h.blocks - s.1) (0, none, 0, []) ⟨Nat.zero_le _, rfl, rfl⟩ ⟨rfl, rfl, rfl, rfl, trivial⟩ (by exact selA) ?_
  rintro ⟨i, a4, c4, acc⟩ ⟨hi, hacc, hall⟩
  dsimp only at hi hacc hall ⊢
  by_cases h1 : i < J.h.blocks
  · rw [show J.h.blocks - i = (J.h.blocks - (i + 1)) + 1 by omega] at hall
    have hw := read_WB h ((firstM D J.h.bank : Int) + (i : Int))
    have herr := fun e => rdAll_err (D := D) (f := firstM D J.h.bank) (i := i) (n := J.h.blocks - (i + 1)) (acc := acc) e
    have hgo := fun e => rdAll_go (D := D) (f := firstM D J.h.bank) (i := i) (n := J.h.blocks - (i + 1)) (acc := acc) e
    have hread := read_c d D ((firstM D J.h.bank : Int) + (i : Int)) h hN
    have hfirst := jfirst_c p d J D J.h.bank hb h
    generalize D.read ((firstM D J.h.bank : Int) + (i : Int)) = u at *
    refine wk ?_
    refine CC.join (X := Nat) (fun b => [(28, .int .i64 (i : Int)), (27, .int .i64 (J.h.blocks : Int)), (0, .pointer (some ⟨p, 0, none⟩)), (4, .slice a4 acc.length c4), (6, .pointer (some ⟨b, 0, none⟩)), (7, .int .i64 u.2)])
      (fun b => [own 5 1 a4 acc.length c4 (cb acc), bk p 123 (jrc d J), disk d D, bk b 59 (cb u.1), exact x]) (fun _ => True) ?_ ?_
    · refine CC.drawP planR (fun _ => false) mixed rfl (by kernel_rfl) (by kernel_rfl) [bk p 123 (jrc d J)] ?_
      unfold planR
      refine hqk ?_
      refine CP.fork ?_ ?_
      · intro K hK
        refine CX.callA (hfirst) ?_
        rintro _ _ ⟨rfl, rfl⟩
        (refine CX.nil ?_; refine CQ.thenK ?_; apply hK; (· exact selA); clear hK K)
        refine hqk ?_
        refine CP.fork ?_ ?_
        · intro K hK
          refine CX.callA (hread) ?_
          rintro _ _ ⟨rfl, rfl⟩
          (refine CX.nil ?_; refine CQ.thenK ?_; apply hK; (· exact selA); clear hK K)
          refine hqk ?_
          refine CP.act ?_
          intro K hK
          refine CX.allocZ (cb zblk) ?_
          intro q8
          (refine CX.nil ?_; refine CQ.thenK ?_; apply hK; (· exact selA); clear hK K)
          refine CP.act ?_
          intro K hK
          (apply CX.storeAll; (· rfl); (· rfl); (· rfl); (· first | exact pickA | exact updA); (· exact hw.len); (· exact WB_z.len); (· exact one_cb _))
          (refine CX.nil ?_; refine CQ.thenK ?_; apply hK; (· exact selA); clear hK K)
          refine hqk ?_
          exact CQ.joined q8 trivial ⟨rfl, rfl, rfl, rfl, rfl, rfl, trivial⟩ (by exact selA)
        · intro K hK
          refine CX.allocZ (cb zblk) ?_
          intro q8
          (refine CX.nil ?_; refine CQ.thenK ?_; apply hK; (· exact selA); clear hK K)
          refine CP.act ?_
          intro K hK
          refine CX.callA (hread) ?_
          rintro _ _ ⟨rfl, rfl⟩
          (refine CX.nil ?_; refine CQ.thenK ?_; apply hK; (· exact selA); clear hK K)
          refine hqk ?_
          refine CP.act ?_
          intro K hK
          (apply CX.storeAll; (· rfl); (· rfl); (· rfl); (· first | exact pickA | exact updA); (· exact hw.len); (· exact WB_z.len); (· exact one_cb _))
          (refine CX.nil ?_; refine CQ.thenK ?_; apply hK; (· exact selA); clear hK K)
          refine hqk ?_
          exact CQ.joined q8 trivial ⟨rfl, rfl, rfl, rfl, rfl, rfl, trivial⟩ (by exact selA)
      · intro K hK
        refine CX.allocZ (cb zblk) ?_
        intro q8
        (refine CX.nil ?_; refine CQ.thenK ?_; apply hK; (· exact selA); clear hK K)
        refine CP.act ?_
        intro K hK
        refine CX.callA (hfirst) ?_
        rintro _ _ ⟨rfl, rfl⟩
        (refine CX.nil ?_; refine CQ.thenK ?_; apply hK; (· exact selA); clear hK K)
        refine hqk ?_
        refine CP.act ?_
        intro K hK
        refine CX.callA (hread) ?_
        rintro _ _ ⟨rfl, rfl⟩
        (refine CX.nil ?_; refine CQ.thenK ?_; apply hK; (· exact selA); clear hK K)
        refine hqk ?_
        refine CP.act ?_
        intro K hK
        (apply CX.storeAll; (· rfl); (· rfl); (· rfl); (· first | exact pickA | exact updA); (· exact hw.len); (· exact WB_z.len); (· exact one_cb _))
        (refine CX.nil ?_; refine CQ.thenK ?_; apply hK; (· exact selA); clear hK K)
        refine hqk ?_
        exact CQ.joined q8 trivial ⟨rfl, rfl, rfl, rfl, rfl, rfl, trivial⟩ (by exact selA)
    · intro q8 _
      by_cases he : u.2 = 0
      rotate_left
      · rw [herr he] at hall
        rw [hall] at hrd
        rw [if_pos he] at hrd
        rw [hrd]
        refine wk ?_
        refine CQ.give (bsA none []) bs_nil ?_
        (apply CQ.end2; (· rfl); (· exact .tmp rfl); (· exact .tmp rfl))
        · exact ⟨none, 0, [], rfl, rfl, rfl, fun _ => ⟨rfl, rfl⟩, Nat.le_refl _⟩
        · exact selA
      rw [hgo he] at hall
      rw [he]
      refine wk ?_
      refine CX.ps (PS.sliceArr (l := 0) (h := 128) rfl rfl rfl rfl (.inl ⟨rfl, rfl⟩) (.inl ⟨rfl, rfl⟩) (by omega) (by omega)) ?_
      rw [cutAt_zero]
      refine CX.append (m := 128 - 0) (news := cb u.1) rfl rfl rfl (by first | exact pickA | exact updA) (RdS.pick (b := q8) (o := 0) (by first | exact pickA | exact updA) hw.len (one_cb _) (by rw [List.drop_zero, List.take_of_length_le (by rw [hw.len]; omega)])) (by omega) (fun h => by cases h) ?_
      intro a5 c5
      rw [← cb_append]
      have hul : u.1.length = 128 := hw
      refine wk ?_
      exact CQ.round (x := (i, a4, c4, acc)) (i + 1, a5, c5, acc ++ u.1) ⟨by dsimp only; omega, by simp [hul]; omega, hall⟩ (by dsimp only; omega) ⟨eqI (by simp), rfl, rfl, slE (by simp [hul]), trivial⟩ (by simp only [List.length_append, hul]; exact selA)
  obtain rfl : i = J.h.blocks := by omega
  rw [Nat.sub_self, rdAll] at hall
  rw [hall, if_neg (by simp)] at hrd
  dsimp only at hrd
  refine CC.fact (own_none (e := 5) (sz := 1) (by first | exact pickA | exact updA)) ?_
  rintro ⟨-, hc4, -⟩
  refine wk ?_
  refine CC.turn (rd a4 acc.length (cb acc)) (own_rd (e := 5) (c := c4)) ?_
  refine CC.ownNil 23 1 ?_
  refine CC.give (valS []) (fun _ => valS_ok.2 fun _ h => by cases h) ?_
  refine CC.loop (X := Nat × Option Addr × Nat × Blk × Option Addr × Nat × List SlB) (fun s => [(60, .int .u32 (s.1 : Int)), (59, .int .u32 (J.h.batches : Int)), (0, .pointer (some ⟨p, 0, none⟩)), (4, .slice s.2.1 s.2.2.2.1.length s.2.2.1), (8, .slice s.2.2.2.2.1 s.2.2.2.2.2.2.length s.2.2.2.2.2.1)])
    (fun s => [rd s.2.1 s.2.2.2.1.length (cb s.2.2.2.1), own 23 1 s.2.2.2.2.1 s.2.2.2.2.2.2.length s.2.2.2.2.2.1 (rows SlB.cells s.2.2.2.2.2.2), valS s.2.2.2.2.2.2, bk p 123 (jrc d J), disk d D, exact x])
    (fun s => s.1 ≤ J.h.batches ∧ s.2.2.2.1.length ≤ s.2.2.1 ∧ s.2.2.2.1.length % 128 = 0 ∧ s.2.2.2.1.length ≤ 1048576 ∧ readM J D = parseM (J.h.batches - s.1) (s.2.2.2.2.2.2.map SlB.b) s.2.2.2.1 ∧ s.2.2.2.2.2.2.length ≤ s.1) (fun s => J.h.batches - s.1) (0, a4, c4, acc, none, 0, [])
    ⟨Nat.zero_le _, hc4, by dsimp only; omega, by dsimp only; omega, hrd, Nat.le_refl _⟩ ⟨rfl, rfl, rfl, rfl, rfl, trivial⟩ (by exact selA) ?_
  rintro ⟨j, av, cv, rem, a8, c8, l⟩ ⟨hj, hcv, hm, hrl, hpm, hlj⟩
  dsimp only at hj hcv hm hrl hpm hlj ⊢
  by_cases h1 : j < J.h.batches
  · rw [show J.h.batches - j = (J.h.batches - (j + 1)) + 1 by omega, parseM] at hpm
    have hgr := getrow_c rem (by omega) av cv hcv 0 1048576 (by decide) (by decide)
    unfold GotRow at hgr
    by_cases he : (Cx.rowAt rem 0 1048576).2.2 = 0
    rotate_left
    · rw [if_pos he] at hpm
      rw [hpm]
      generalize Cx.rowAt rem 0 1048576 = r at *
      refine wk ?_
      refine CX.callA (hgr) ?_ (hpre := by exact rdx_rd (by first | exact pickA | exact updA))
      rintro _ _ ⟨a9, c9, rfl, rfl⟩
      refine wk ?_
      refine CQ.give (bsA none []) bs_nil ?_
      (apply CQ.end2; (· rfl); (· exact .tmp rfl); (· exact .tmp rfl))
      · exact ⟨none, 0, [], rfl, rfl, rfl, fun _ => ⟨rfl, rfl⟩, Nat.le_refl _⟩
      · exact selA
    obtain ⟨-, hnx, hnl, hr1, -⟩ := rowAt_inv (b := rem) (r := (Cx.rowAt rem 0 1048576).1) (at_ := 0) (most := 1048576) (nx := (Cx.rowAt rem 0 1048576).2.1) (by rw [← he])
    rw [if_neg (by simp [he])] at hpm
    generalize Cx.rowAt rem 0 1048576 = r at *
    have hge := upB_ge r.2.1
    have hle := upB_le hnl hm
    have hCl : ((rem.drop r.2.1).take (upB r.2.1 - r.2.1)).length = upB r.2.1 - r.2.1 := by simp; omega
    have hcon := conB_c ((rem.drop r.2.1).take (upB r.2.1 - r.2.1)) (by omega) (cutAt av r.2.1 cv 1) (cv - r.2.1)
    rw [hCl] at hcon
    have hq : IntKind.i64.wrap (((r.2.1 : Int) + 128 - 1).tdiv 128) = (((r.2.1 + 127) / 128 : Nat) : Int) := by
      rw [tdiv_nn (by omega), wr_i64 (by omega) (by omega)]; omega
    have hmu : IntKind.i64.wrap ((((r.2.1 + 127) / 128 : Nat) : Int) * 128) = (upB r.2.1 : Int) := by
      unfold upB; rw [wr_i64 (by omega) (by omega)]; simp
    rw [he] at hgr
    refine CC.fact (p := ∃ g o, av = some ⟨g, o, none⟩) (fun y hy => rdx_some (rd_ok.1 (Pick.ok (show Pick (rd av rem.length (cb rem)) _ _ from by first | exact pickA | exact updA) hy)) (by omega)) ?_
    rintro ⟨g, o, rfl⟩
    have hpre : ∀ y, rdx (some ⟨g, o, none⟩) rem.length (cb rem) y → rdx (cutAt (some ⟨g, o, none⟩) r.2.1 cv 1) (upB r.2.1 - r.2.1) (cb ((rem.drop r.2.1).take (upB r.2.1 - r.2.1))) y := fun y hy => rdx_cut2 hy rfl hge hle hcv
    by_cases hz : ∃ c ∈ (rem.drop r.2.1).take (upB r.2.1 - r.2.1), c ≠ 0
    · rw [if_pos hz] at hpm
      rw [hpm]
      rw [decide_eq_true hz] at hcon
      refine wk ?_
      refine CX.callA (hgr) ?_ (hpre := by exact rdx_rd (by first | exact pickA | exact updA))
      rintro _ _ ⟨a9, c9, rfl, rfl⟩
      refine wk ?_
      refine CX.ps (PS.quo rfl rfl rfl (by decide) hq) ?_
      refine CX.ps (PS.mul rfl rfl rfl hmu) ?_
      refine wk ?_
      refine CX.ps (PS.slice (l := r.2.1) (h := upB r.2.1) rfl rfl rfl rfl (.inr ⟨_, rfl⟩) (.inr ⟨_, rfl⟩) hge (by omega)) ?_
      refine CX.callA (hcon) ?_ (hpre := by exact fun y hy => hpre y (rdx_rd (by first | exact pickA | exact updA) y hy))
      rintro _ _ ⟨rfl, rfl⟩
      refine wk ?_
      refine CQ.give (bsA none []) bs_nil ?_
      (apply CQ.end2; (· rfl); (· exact .tmp rfl); (· exact .tmp rfl))
      · exact ⟨none, 0, [], rfl, rfl, rfl, fun _ => ⟨rfl, rfl⟩, Nat.le_refl _⟩
      · exact selA
    rw [if_neg hz] at hpm
    rw [decide_eq_false hz] at hcon
    refine wk ?_
    refine CX.callA (hgr) ?_ (hpre := by exact rdx_rd (by first | exact pickA | exact updA))
    rintro _ _ ⟨a9, c9, rfl, rfl⟩
    refine wk ?_
    refine CX.ps (PS.quo rfl rfl rfl (by decide) hq) ?_
    refine CX.ps (PS.mul rfl rfl rfl hmu) ?_
    refine wk ?_
    refine CX.ps (PS.slice (l := r.2.1) (h := upB r.2.1) rfl rfl rfl rfl (.inr ⟨_, rfl⟩) (.inr ⟨_, rfl⟩) hge (by omega)) ?_
    refine CX.callA (hcon) ?_ (hpre := by exact fun y hy => hpre y (rdx_rd (by first | exact pickA | exact updA) y hy))
    rintro _ _ ⟨rfl, rfl⟩
    refine wk ?_
    refine CC.draw [(0, 0), (1, 0), (4, 0), (5, 0), (6, 0), (2, 3), (3, 3), (7, 0), (8, 0)] mixed rfl (by kernel_rfl) (by kernel_rfl) [] ?_
    refine hwk ?_
    refine CH.pure rfl (PS.sliceLo (l := upB r.2.1) rfl rfl rfl rfl hle hcv) ?_
    refine CH.tail rfl rfl fun K hK => ?_
    refine CX.buildSl (parts := [(0, _)]) (vs := [(0, .slice a9 r.1.length c9)]) (out := [.slice a9 r.1.length c9]) rfl rfl (by decide) (by simp [fillL, Value.cells, setL]) fun bq => ?_
    (refine CX.nil ?_; refine CQ.thenK ?_; apply hK; clear hK K)
    refine CH.tail rfl rfl fun K hK => ?_
    refine CX.append (m := 1) (news := [.slice a9 r.1.length c9]) rfl rfl rfl (by first | exact pickA | exact updA) (RdS.pick (b := bq) (o := 0) (by first | exact pickA | exact updA) rfl (one_all rfl) rfl) (by omega) (fun h => by cases h) ?_
    intro a10 c10
    refine CX.merge (valS (l ++ [⟨a9, r.1, c9⟩])) valS_snoc ?_
    (refine CX.nil ?_; refine CQ.thenK ?_; apply hK; clear hK K)
    refine hwk ?_
    refine wk ?_
    refine CQ.turn (rd (some ⟨g, if cv = upB r.2.1 then o else o + upB r.2.1 * 1, none⟩) (rem.length - upB r.2.1) (cb (rem.drop (upB r.2.1)))) (fun y s => rd_ok.2 (rdx_cut (rd_ok.1 s) rfl hle hcv)) ?_
    exact CQ.round (x := (j, some ⟨g, o, none⟩, cv, rem, a8, c8, l)) (j + 1, some ⟨g, if cv = upB r.2.1 then o else o + upB r.2.1 * 1, none⟩, cv - upB r.2.1, rem.drop (upB r.2.1), a10, c10, l ++ [⟨a9, r.1, c9⟩]) ⟨by dsimp only; omega, by simp; omega, by simp [upB] at hle ⊢; omega, by simp; omega, by dsimp only; rw [List.map_append]; exact hpm, by simp; omega⟩ (by dsimp only; omega) ⟨eqI (by simp), rfl, rfl, slE (by simp), slE (by simp), trivial⟩ (by simp only [List.length_append, List.length_drop, rows_append]; exact selA)
  obtain rfl : j = J.h.batches := by omega
  rw [Nat.sub_self, parseM] at hpm
  by_cases h3 : 0 < rem.length
  · rw [if_pos h3] at hpm
    rw [hpm]
    refine wk ?_
    refine CQ.give (bsA none []) bs_nil ?_
    (apply CQ.end2; (· rfl); (· exact .tmp rfl); (· exact .tmp rfl))
    · exact ⟨none, 0, [], rfl, rfl, rfl, fun _ => ⟨rfl, rfl⟩, Nat.le_refl _⟩
    · exact selA
  · rw [if_neg h3] at hpm
    rw [hpm]
    refine wk ?_
    refine CQ.fact (own_none (e := 23) (sz := 1) (by first | exact pickA | exact updA)) ?_
    rintro ⟨hn8, hc8, -⟩
    refine CQ.merge (bsA a8 l) own_bs ?_
    (apply CQ.end2; (· rfl); (· exact .tmp rfl); (· exact .tmp rfl))
    · exact ⟨a8, c8, l, rfl, rfl, rfl, hn8, hc8⟩
    · exact selA
end Go.Proofs.YtlckhaodecdbbaaGreatDoor
/-! What the journal's statements lean on (ref 00 Copy, ref 01 Row, ref 07 Same), in the program. -/
namespace Go.Cx
theorem bk_rdx {b t o len : Nat} {cs vs : List Value} {L M : List Assn} (p : Pick (bk b t cs) L M) (hc : (cs.drop o).take vs.length = vs) : ∀ y, Sep L y → rdx (some ⟨b, o, none⟩) len vs y := fun y hy => by
  obtain ⟨cs', t', fr, e, h⟩ := CellsAt.pick p hc y hy
  exact .inr ⟨b, o, _, _, _, rfl, e, h⟩
theorem sl_len (l : List SlB) : ∀ y ∈ l, (SlB.cells y).length = 1 := fun _ _ => rfl
theorem bsAt_some {a : Option Addr} {l : List SlB} {x : PH} (h : bsAt a l x) (h0 : 0 < l.length) : ∃ g off, a = some ⟨g, off, none⟩ := rdx_some h.1 (by omega)
theorem bsAt.cell {L L' : List Assn} {x : PH} {g off i : Nat} {l : List SlB} (h : bsAt (some ⟨g, off, none⟩) l x) (p : Pick (exact x) L L') (hi : i < l.length) : CellAt L g (off + i * 1) (.slice (l[i]).a (l[i]).b.length (l[i]).c) :=
  fun y hy => by
    obtain ⟨cs, t, fr, e, hc⟩ := CellsAt.row p h.1 (by omega) (sl_len l) hi y hy
    exact ⟨cs, t, fr, e, by simpa using hc 0 _ rfl⟩
theorem bsA_cell {L L' : List Assn} {g off i : Nat} {l : List SlB} (p : Pick (bsA (some ⟨g, off, none⟩) l) L L') (hi : i < l.length) : CellAt L g (off + i * 1) (.slice (l[i]).a (l[i]).b.length (l[i]).c) :=
  fun y hy => (bsA_ok.1 (p.ok hy)).cell (x := y) (.head []) hi y ⟨fun _ => true, fun b o e => by simpa [PH.only] using e, trivial⟩
theorem bs_bsA {L L' : List Assn} {a : Option Addr} {l : List SlB} (p : Pick (bsA a l) L L') : ∀ y, Sep L y → bsAt a l y := fun y hy => bsA_ok.1 (p.ok hy)
end Go.Cx
namespace Go.Proofs.YtlckhaodecdbbaaGreatDoor
open Go.Cx
attribute [local irreducible] Go.Cx.CX Go.Cx.CC Go.Cx.CQ Go.Cx.PS Go.Cx.Ctr Go.Cx.CH
set_option maxRecDepth 10000
theorem r1row_c (B : Blk) (hB : B.length ≤ 1073741824) (a : Option Addr) (cap : Nat) (hn : a = none → B.length = 0 ∧ cap = 0) : Ctr Tryz.prog 100 [.slice a B.length cap] [] (fun x => rdx a B.length (cb B) x)
    (fun v M => ∃ b c, v = .slice (some ⟨b, 0, none⟩) (4 + B.length) c ∧ M = [own 5 1 (some ⟨b, 0, none⟩) (4 + B.length) c (cb (rowB B))]) := by
  refine Ctr.intro Tryz.func100 rfl Tryz.ntmps100 rfl fun x w hp => ?_
  refine wk ?_
  refine CX.callA (rput_c B.length 4 (by omega) (by omega)) ?_
  rintro _ _ ⟨b, c, rfl, rfl⟩
  refine wk ?_
  refine CX.append (m := B.length) (news := cb B) rfl rfl rfl (by first | exact pickA | exact updA) (rdS_of (rdx_ex (by first | exact pickA | exact updA) hp) rfl) (by omega) hn ?_
  intro a' c'
  have e : cb (le 4 B.length) ++ cb B = cb (rowB B) := by simp [rowB, cb_append]
  rw [e]
  refine CX.fact (own_fact (e := 5) (by first | exact pickA | exact updA) (by omega)) ?_
  rintro ⟨hc1, q, rfl⟩
  refine wk ?_
  (apply CQ.end1; (· rfl); (· exact .tmp rfl))
  · exact ⟨q, c', rfl, rfl⟩
  · exact selA
theorem r0copy_c (B : Blk) (hB : B.length ≤ 1073741824) (a : Option Addr) (cap : Nat) (hn : a = none → B.length = 0 ∧ cap = 0) : Ctr Tryz.prog 42 [.slice a B.length cap] [] (fun x => rdx a B.length (cb B) x)
    (fun v M => ∃ b c, v = .slice b B.length c ∧ M = [own 5 1 b B.length c (cb B)]) := by
  refine Ctr.intro Tryz.func42 rfl Tryz.ntmps42 rfl fun x w hp => ?_
  refine CC.ownNil 5 1 ?_
  refine wk ?_
  refine CX.append (m := B.length) (news := cb B) rfl rfl rfl (by first | exact pickA | exact updA) (rdS_of (rdx_ex (by first | exact pickA | exact updA) hp) rfl) (by omega) hn ?_
  intro a' c'
  rw [Nat.zero_add, List.nil_append]
  refine wk ?_
  (apply CQ.end1; (· rfl); (· exact .tmp rfl))
  · exact ⟨a', c', rfl, rfl⟩
  · exact selA
end Go.Proofs.YtlckhaodecdbbaaGreatDoor
/-! ref 08: Apply, in the program. -/
namespace Go.Cx
/-- Two tables, in the same memory. -/
@[irreducible] def tab2A (a : Option Addr) (t : List RwV) (b : Option Addr) (r : List RwV) : Assn where
  ok h := rwAt a t h ∧ rwAt b r h
  mono := fun _ _ e h => ⟨rwAt_mono h.1 e, rwAt_mono h.2 e⟩
theorem tab2A_ok {a b : Option Addr} {t r : List RwV} {h : PH} : (tab2A a t b r).ok h ↔ rwAt a t h ∧ rwAt b r h := by unfold tab2A; exact Iff.rfl
theorem rw_tab2 {L L' : List Assn} {a b : Option Addr} {t r : List RwV} (p : Pick (tab2A a t b r) L L') : ∀ y, Sep L y → rwAt b r y := fun y hy => (tab2A_ok.1 (p.ok hy)).2
theorem own_rw {e : TypeId} {a : Option Addr} {c : Nat} {l : List RwV} {h : PH} (s : (own e 2 a l.length c (rows RwV.cells l)).ok h) (t : ∀ q ∈ l, q.s.ok h) : rwAt a l h := ⟨own_rdx s (one_rw l), t⟩
end Go.Cx
namespace Go.Proofs.YtlckhaodecdbbaaGreatDoor
open Go.Cx
attribute [local irreducible] Go.Cx.CX Go.Cx.CC Go.Cx.CQ Go.Cx.PS Go.Cx.Ctr Go.Cx.CH
set_option maxRecDepth 10000
def R8P (a : Option Addr) (t : List RwV) (l : List ChV) (v : Value) (M : List Assn) : Prop :=
  (¬ (MayR (t.map RwV.m) ∧ MayC (l.map ChV.m)) → v = .tuple #[.slice none 0 0, .int .i64 2] ∧ M = [tabA a t]) ∧
  (MayR (t.map RwV.m) ∧ MayC (l.map ChV.m) → ∃ a' c r, r.map RwV.m = applyM (t.map RwV.m) (l.map ChV.m) ∧ v = .tuple #[.slice a' (List.length r) c, .int .i64 0] ∧ M = [tab2A a t a' r] ∧ (a' = none → r.length = 0 ∧ c = 0) ∧ r.length ≤ c ∧ r.length ≤ t.length + l.length)
set_option maxHeartbeats 1000000 in
theorem r8apply_c (t : List RwV) (l : List ChV) (hl : t.length + l.length ≤ 1073741820) (a b : Option Addr) (ca cb' : Nat) (hca : t.length ≤ ca) (hn : a = none → t.length = 0 ∧ ca = 0) :
    Ctr Tryz.prog 11 [.slice a t.length ca, .slice b l.length cb'] [tabA a t] (fun x => chAt b l x) (R8P a t l) := by
  unfold R8P
  refine Ctr.intro Tryz.func11 rfl Tryz.ntmps11 rfl fun x w hp => ?_
  refine wk ?_
  refine CX.callA (r8may_c t (by omega) a ca) ?_ (hpre := by exact rw_tab (by first | exact pickA | exact updA))
  by_cases h1 : MayR (t.map RwV.m)
  rotate_left
  · rw [decide_eq_false h1]
    rintro _ _ ⟨rfl, rfl⟩
    refine wk ?_
    (apply CQ.end2; (· rfl); (· exact .tmp rfl); (· exact .tmp rfl))
    · exact ⟨fun _ => ⟨rfl, rfl⟩, fun h => absurd h.1 h1⟩
    · exact selA
  rw [decide_eq_true h1]
  rintro _ _ ⟨rfl, rfl⟩
  refine wk ?_
  refine CX.callA (r8mayC_c l (by omega) b cb') ?_ (hpre := by exact ch_ex (by first | exact pickA | exact updA) hp)
  by_cases h2 : MayC (l.map ChV.m)
  rotate_left
  · rw [decide_eq_false h2]
    rintro _ _ ⟨rfl, rfl⟩
    refine wk ?_
    (apply CQ.end2; (· rfl); (· exact .tmp rfl); (· exact .tmp rfl))
    · exact ⟨fun _ => ⟨rfl, rfl⟩, fun h => absurd h.2 h2⟩
    · exact selA
  rw [decide_eq_true h2]
  rintro _ _ ⟨rfl, rfl⟩
  refine wk ?_
  refine CC.turn (tab2A a t a t) (fun k s => tab2A_ok.2 ⟨tabA_ok.1 s, tabA_ok.1 s⟩) ?_
  refine CC.loop (X := Nat × Option Addr × Nat × List RwV) (fun s => [(6, .int .i64 (s.1 : Int)), (0, .slice s.2.1 s.2.2.2.length s.2.2.1), (1, .slice b l.length cb')]) (fun s => [tab2A a t s.2.1 s.2.2.2, exact x])
    (fun s => s.1 ≤ l.length ∧ s.2.2.2.map RwV.m = ((l.take s.1).map ChV.m).foldl (fun t c => applyM t [c]) (t.map RwV.m) ∧ s.2.2.2.length ≤ t.length + s.1 ∧ (s.2.1 = none → s.2.2.2.length = 0 ∧ s.2.2.1 = 0) ∧ s.2.2.2.length ≤ s.2.2.1)
    (fun s => l.length - s.1) (0, a, ca, t) ⟨Nat.zero_le _, rfl, Nat.le_refl _, hn, hca⟩ ⟨rfl, rfl, rfl, trivial⟩ (by exact selA) ?_
  rintro ⟨i, a', c', r⟩ ⟨hi, hm, hlen, hn', hc'⟩
  dsimp only at hi hm hlen hn' hc' ⊢
  by_cases hil : i < l.length
  rotate_left
  · rw [List.take_of_length_le (by omega), fold_apply h1.1 h2.1] at hm
    refine wk ?_
    (apply CQ.end2; (· rfl); (· exact .tmp rfl); (· exact .tmp rfl))
    · exact ⟨fun h => absurd ⟨h1, h2⟩ h, fun _ => ⟨a', c', r, hm, rfl, rfl, hn', hc', by omega⟩⟩
    · exact selA
  obtain ⟨g, off, rfl⟩ := chAt_some hp (by omega)
  have hris : Rising (r.map RwV.m) := by rw [hm]; exact fold_apply_rising _ _ h1.1
  have hstep : ((l.take (i + 1)).map ChV.m).foldl (fun t c => applyM t [c]) (t.map RwV.m) = applyM (r.map RwV.m) [(l[i]).m] := by
    rw [List.take_add_one, List.getElem?_eq_getElem hil, List.map_append, List.foldl_append, ← hm]; rfl
  have hcok := mayC_ok h2 i hil
  have hsok := hp.2 l[i] (List.getElem_mem hil)
  by_cases hg : (l[i]).gone = true
  · refine wk ?_
    (refine CX.indexA (i) ?_ ?_; (· exact hil))
    refine wk ?_
    (apply CX.ps; (· apply PS.load (v := .bool true); (· rfl); (· rfl); (· exact hp.cell (by first | exact pickA | exact updA) hil 2 (by show some (Value.bool (l[i]).gone) = _; rw [hg]))))
    refine wk ?_
    (refine CX.indexA (i) ?_ ?_; (· exact hil))
    refine wk ?_
    (apply CX.ps; (· apply PS.load (v := sv (l[i]).key); (· rfl); (· rfl); (· exact hp.cell (by first | exact pickA | exact updA) hil 0 rfl)))
    refine CX.callA (r8wo_c r (by omega) a' c' (l[i]).key) ?_ (hpre := by exact rw_tab2 (by first | exact pickA | exact updA))
    rintro _ _ ⟨a3, c3, rfl, rfl⟩
    refine CX.fact (own_none (e := 71) (by first | exact pickA | exact updA)) ?_
    rintro ⟨hn3, hc3, -⟩
    refine CX.merge (A := own 71 2 a3 (woV (l[i]).key r).length c3 (rows RwV.cells (woV (l[i]).key r))) (B := tab2A a t a' r) (tab2A a t a3 (woV (l[i]).key r)) (fun k s u => tab2A_ok.2 ⟨(tab2A_ok.1 u).1, own_rw s fun q hq => (tab2A_ok.1 u).2.2 q (woV_mem hq)⟩) ?_
    have hml : (woV (l[i]).key r).map RwV.m = applyM (r.map RwV.m) [(l[i]).m] := by
      rw [woV_m, wo_apply (l[i]).key (l[i]).s.b _ hris, show (l[i]).m = ⟨(l[i]).key, (l[i]).s.b, true⟩ from by rw [← hg]; rfl]
    have hle := woV_len (l[i]).key r
    refine wk ?_
    exact CQ.round (x := (i, a', c', r)) (i + 1, a3, c3, woV (l[i]).key r) ⟨hil, by rw [hstep]; exact hml, by dsimp only; omega, hn3, hc3⟩ (by dsimp only; omega) ⟨eqI (by omega), rfl, rfl, trivial⟩ (by exact selA)
  · have hg' : (l[i]).gone = false := by simpa using hg
    have hv := hcok.v
    have hvl : (l[i]).m.val.length = (l[i]).s.b.length := rfl
    refine wk ?_
    (refine CX.indexA (i) ?_ ?_; (· exact hil))
    refine wk ?_
    (apply CX.ps; (· apply PS.load (v := .bool false); (· rfl); (· rfl); (· exact hp.cell (by first | exact pickA | exact updA) hil 2 (by show some (Value.bool (l[i]).gone) = _; rw [hg']))))
    refine wk ?_
    refine CC.draw [(0, 0), (1, 0), (2, 0), (3, 0), (4, 0), (5, 1), (6, 0), (7, 0), (8, 0), (9, 0), (10, 1), (11, 2), (12, 0), (13, 2), (14, 0)] mixed rfl (by kernel_rfl) (by kernel_rfl) [exact x] ?_
    refine hwk ?_
    refine CH.pure rfl (PS.indexAddr (j := i) rfl rfl rfl rfl hil) ?_
    refine hwk ?_
    (apply CH.read; (· rfl); (· apply PS.load (v := sv (l[i]).key); (· rfl); (· rfl); (· exact hp.cell (by first | exact pickA | exact updA) hil 0 rfl)); (· exact selA))
    refine hwk ?_
    refine CH.pure rfl (PS.indexAddr (j := i) rfl rfl rfl rfl hil) ?_
    refine hwk ?_
    (apply CH.read; (· rfl); (· apply PS.load (v := .slice (l[i]).s.a (l[i]).s.b.length (l[i]).s.c); (· rfl); (· rfl); (· exact hp.cell (by first | exact pickA | exact updA) hil 1 rfl)); (· exact selA))
    refine CH.chain rfl fun K hK => ?_
    refine CX.callA (r0copy_c (l[i]).s.b (by omega) (l[i]).s.a (l[i]).s.c (fun e => ⟨by rw [(hsok.nil e).1]; rfl, (hsok.nil e).2⟩)) ?_ (hpre := by exact rdx_ex (by first | exact pickA | exact updA) hsok.r)
    rintro _ _ ⟨a2, c2, rfl, rfl⟩
    (refine CX.nil ?_; refine CQ.thenK ?_; apply hK; (· exact selA); clear hK K)
    refine CH.pure rfl (PS.build (vs := [(0, sv (l[i]).key), (1, .slice a2 (l[i]).s.b.length c2)]) (out := RwV.cells ⟨(l[i]).key, ⟨a2, (l[i]).s.b, c2⟩⟩) rfl rfl rfl) ?_
    refine CH.chain rfl fun K hK => ?_
    refine CX.callA (r8ins_c r (by omega) a' c' ⟨(l[i]).key, ⟨a2, (l[i]).s.b, c2⟩⟩) ?_ (hpre := by exact rw_tab2 (by first | exact pickA | exact updA))
    rintro _ _ ⟨a3, c3, F, hF, rfl, rfl⟩
    refine CX.fact (own_none (e := 71) (by first | exact pickA | exact updA)) ?_
    rintro ⟨hn3, hc3, -⟩
    refine CX.merge3 (A := own 71 2 a3 F.length c3 (rows RwV.cells F)) (B := tab2A a t a' r) (C := own 5 1 a2 (l[i]).s.b.length c2 (cb (l[i]).s.b)) (tab2A a t a3 F) (fun k s u z => tab2A_ok.2 ⟨(tab2A_ok.1 u).1, own_rw s fun q hq => by
      rw [hF] at hq
      rcases pgK_mem rwKey _ _ _ q hq with rfl | h
      · exact own_SlB z
      · exact (tab2A_ok.1 u).2.2 q h⟩) ?_
    (refine CX.nil ?_; refine CQ.thenK ?_; apply hK; (· exact selA); clear hK K)
    have hml : F.map RwV.m = applyM (r.map RwV.m) [(l[i]).m] := by
      rw [hF, pgK_map RwV.m rwKey Prod.fst (fun _ => rfl), pg_false _ _ hris]
      rw [show (l[i]).m = ⟨(l[i]).key, (l[i]).s.b, false⟩ from by rw [← hg']; rfl]; rfl
    have hle : F.length ≤ r.length + 1 := by rw [hF]; exact pgK_len rwKey _ false r
    refine hwk ?_
    refine wk ?_
    exact CQ.round (x := (i, a', c', r)) (i + 1, a3, c3, F) ⟨hil, by rw [hstep]; exact hml, by dsimp only; omega, hn3, hc3⟩ (by dsimp only; omega) ⟨eqI (by omega), rfl, rfl, trivial⟩ (by exact selA)
end Go.Proofs.YtlckhaodecdbbaaGreatDoor
/-! ref 08: Put, in the program. -/
namespace Go.Proofs.YtlckhaodecdbbaaGreatDoor
open Go.Cx
attribute [local irreducible] Go.Cx.CX Go.Cx.CC Go.Cx.CQ Go.Cx.PS Go.Cx.Ctr Go.Cx.CH
set_option maxRecDepth 10000
theorem r8put_c (l : List ChV) (hl : l.length ≤ 1073741824) (hb0 : MayC (l.map ChV.m) → (putB (l.map ChV.m)).length ≤ 70368744177664) (a : Option Addr) (cap : Nat) : Ctr Tryz.prog 58 [.slice a l.length cap] [] (fun x => chAt a l x) (BatchP 5 l) := by
  unfold BatchP
  refine Ctr.intro Tryz.func58 rfl Tryz.ntmps58 rfl fun x w hp => ?_
  refine wk ?_
  refine CX.callA (r8mayC_c l (by omega) a cap) ?_ (hpre := by exact ch_ex (by first | exact pickA | exact updA) hp)
  by_cases hm : MayC (l.map ChV.m)
  rotate_left
  · rw [decide_eq_false hm]
    rintro _ _ ⟨rfl, rfl⟩
    refine wk ?_
    (apply CQ.end2; (· rfl); (· exact .tmp rfl); (· exact .tmp rfl))
    · exact ⟨fun h => absurd h hm, fun _ => ⟨rfl, rfl⟩⟩
    · exact selA
  have hb := hb0 hm
  rw [decide_eq_true hm]
  rintro _ _ ⟨rfl, rfl⟩
  refine wk ?_
  refine CX.callA (rput_c l.length 4 (by omega) (by omega)) ?_
  rintro _ _ ⟨b0, c0, rfl, rfl⟩
  refine wk ?_
  refine CC.loop (X := Nat × Nat × Nat) (fun s => [(6, .int .i64 (s.1 : Int)), (0, .slice a l.length cap), (4, .slice (some ⟨s.2.1, 0, none⟩) (preB l.length (l.take s.1)).length s.2.2)])
    (fun s => [own 5 1 (some ⟨s.2.1, 0, none⟩) (preB l.length (l.take s.1)).length s.2.2 (cb (preB l.length (l.take s.1))), exact x]) (fun s => s.1 ≤ l.length) (fun s => l.length - s.1) (0, b0, c0) (Nat.zero_le _) ⟨rfl, rfl, slE (by simp [preB]), trivial⟩ (by rw [List.take_zero, preB_nil]; exact selA) ?_
  rintro ⟨i, b, c⟩ hi
  dsimp only at hi ⊢
  have hbl := preB_le l.length l (i + 1)
  rw [preB_all] at hbl
  by_cases h1 : i < l.length
  rotate_left
  · rw [show l.take i = l from List.take_of_length_le (by omega), preB_all]
    refine wk ?_
    (apply CQ.end2; (· rfl); (· exact .tmp rfl); (· exact .tmp rfl))
    · exact ⟨fun _ => ⟨b, c, rfl, rfl⟩, fun h => absurd hm h⟩
    · exact selA
  obtain ⟨g, off, rfl⟩ := chAt_some hp (by omega)
  have hr := hp.2 l[i] (List.getElem_mem h1)
  have hok := hm.2 (l[i]).m (List.mem_map_of_mem (List.getElem_mem h1))
  have hk16 : (l[i]).key.length ≤ 16 := hok.k2
  have hvm : (l[i]).s.b.length ≤ 1048576 := hok.v
  have hT := preB_take (n := l.length) h1
  have hTl := congrArg List.length hT
  rw [List.length_append] at hTl
  generalize hX : preB l.length (l.take i) = X at *
  generalize hY : preB l.length (l.take (i + 1)) = Y at *
  by_cases hg : (l[i]).gone = true
  · have hc := chB_gone hg
    rw [hc] at hT hTl
    simp only [List.length_append, rowB_len, List.length_singleton] at hTl
    refine wk ?_
    (refine CX.indexA (i) ?_ ?_; (· exact h1))
    refine wk ?_
    (apply CX.ps; (· apply PS.load (v := sv (l[i]).key); (· rfl); (· rfl); (· exact hp.cell (by first | exact pickA | exact updA) h1 0 rfl)))
    refine CX.strBytes ?_
    intro q cq hcq
    refine CX.callA (r1row_c (l[i]).key (by omega) (some ⟨q, 0, none⟩) cq (fun h => by cases h)) ?_ (hpre := by exact rdx_rd (by first | exact pickA | exact updA))
    rintro _ _ ⟨br, cr, rfl, rfl⟩
    refine CX.append (m := 4 + (l[i]).key.length) (news := cb (rowB (l[i]).key)) rfl rfl rfl (by first | exact pickA | exact updA) (rdS_of (rdx_own (e := 5) (by first | exact pickA | exact updA) (by simp [rowB_len])) (by simp [rowB_len])) (by omega) (fun h => by cases h) ?_
    intro a2 c2
    rw [← cb_append]
    refine wk ?_
    (refine CX.indexA (i) ?_ ?_; (· exact h1))
    refine wk ?_
    (apply CX.ps; (· apply PS.load (v := .bool true); (· rfl); (· rfl); (· exact hp.cell (by first | exact pickA | exact updA) h1 2 (by show some (Value.bool (l[i]).gone) = _; rw [hg]))))
    refine wk ?_
    (refine CX.appB (1) ?_ ?_ ?_; (· omega); (· rfl); intro bq a3 c3)
    have e : X ++ rowB (l[i]).key ++ [1] = Y := by rw [hT, List.append_assoc]
    rw [e]
    refine CX.fact (own_fact (e := 5) (by first | exact pickA | exact updA) (by omega)) ?_
    rintro ⟨hc3, q3, rfl⟩
    refine wk ?_
    refine CQ.round (x := (i, b, c)) (i + 1, q3, c3) (by dsimp only; omega) (by dsimp only; omega) ⟨eqI (by simp), rfl, slE (by simp only [hY]; omega), trivial⟩ (by simp only [hY]; rw [show X.length + (4 + (l[i]).key.length) + 1 = Y.length by omega]; exact selA)
  · have hg' : (l[i]).gone = false := by simpa using hg
    have hc := chB_val hg'
    rw [hc] at hT hTl
    simp only [List.length_append, rowB_len, List.length_singleton] at hTl
    refine wk ?_
    (refine CX.indexA (i) ?_ ?_; (· exact h1))
    refine wk ?_
    (apply CX.ps; (· apply PS.load (v := sv (l[i]).key); (· rfl); (· rfl); (· exact hp.cell (by first | exact pickA | exact updA) h1 0 rfl)))
    refine CX.strBytes ?_
    intro q cq hcq
    refine CX.callA (r1row_c (l[i]).key (by omega) (some ⟨q, 0, none⟩) cq (fun h => by cases h)) ?_ (hpre := by exact rdx_rd (by first | exact pickA | exact updA))
    rintro _ _ ⟨br, cr, rfl, rfl⟩
    refine CX.append (m := 4 + (l[i]).key.length) (news := cb (rowB (l[i]).key)) rfl rfl rfl (by first | exact pickA | exact updA) (rdS_of (rdx_own (e := 5) (by first | exact pickA | exact updA) (by simp [rowB_len])) (by simp [rowB_len])) (by omega) (fun h => by cases h) ?_
    intro a2 c2
    rw [← cb_append]
    refine wk ?_
    (refine CX.indexA (i) ?_ ?_; (· exact h1))
    refine wk ?_
    (apply CX.ps; (· apply PS.load (v := .bool false); (· rfl); (· rfl); (· exact hp.cell (by first | exact pickA | exact updA) h1 2 (by show some (Value.bool (l[i]).gone) = _; rw [hg']))))
    refine wk ?_
    (refine CX.appB (0) ?_ ?_ ?_; (· omega); (· rfl); intro bq a3 c3)
    refine wk ?_
    (refine CX.indexA (i) ?_ ?_; (· exact h1))
    refine wk ?_
    (apply CX.ps; (· apply PS.load (v := .slice (l[i]).s.a (l[i]).s.b.length (l[i]).s.c); (· rfl); (· rfl); (· exact hp.cell (by first | exact pickA | exact updA) h1 1 rfl)))
    refine CX.callA (r1row_c (l[i]).s.b (by omega) (l[i]).s.a (l[i]).s.c (fun h => ⟨by rw [(hr.nil h).1]; rfl, (hr.nil h).2⟩)) ?_ (hpre := by exact rdx_ex (by first | exact pickA | exact updA) hr.r)
    rintro _ _ ⟨br2, cr2, rfl, rfl⟩
    refine CX.append (m := 4 + (l[i]).s.b.length) (news := cb (rowB (l[i]).s.b)) rfl rfl rfl (by first | exact pickA | exact updA) (rdS_of (rdx_own (e := 5) (by first | exact pickA | exact updA) (by simp [rowB_len])) (by simp [rowB_len])) (by omega) (fun h => by cases h) ?_
    intro a4 c4
    rw [← cb_append]
    have e : X ++ rowB (l[i]).key ++ [0] ++ rowB (l[i]).s.b = Y := by rw [hT]; simp only [List.append_assoc]
    rw [e]
    refine CX.fact (own_fact (e := 5) (by first | exact pickA | exact updA) (by omega)) ?_
    rintro ⟨hc3, q3, rfl⟩
    refine wk ?_
    refine CQ.round (x := (i, b, c)) (i + 1, q3, c4) (by dsimp only; omega) (by dsimp only; omega) ⟨eqI (by simp), rfl, slE (by simp only [hY]; omega), trivial⟩ (by simp only [hY]; rw [show X.length + (4 + (l[i]).key.length) + 1 + (4 + (l[i]).s.b.length) = Y.length by omega]; exact selA)
end Go.Proofs.YtlckhaodecdbbaaGreatDoor
/-! What layer 6's statements do, step by step: what is put is got. -/
namespace Go.Cx
theorem putH_WB6 (n : Nat) (h : HdM) : WB (putH n h).1 := by
  unfold putH
  split
  · exact WB_z
  · exact sealB_WB (by rw [bytes_len]; omega)
end Go.Cx
namespace Go.Proofs.YtlckhaodecdbbaaGreatDoor
open Go.Cx
attribute [local irreducible] Go.Cx.CX Go.Cx.CC Go.Cx.CQ Go.Cx.PS Go.Cx.Ctr Go.Cx.CH
set_option maxRecDepth 10000
end Go.Proofs.YtlckhaodecdbbaaGreatDoor
/-! What the statement HeadNewest does, step by step. -/
namespace Go.Cx
theorem putH_eq {n : Nat} {h : HdM} (h1 : 1 ≤ n) (h2 : n ≤ most) (hm : h.may) : putH n h = (sealB n h.bytes, 0) := by
  unfold putH; rw [if_neg]; rintro (q | q | q) <;> first | omega | exact q hm
end Go.Cx
namespace Go.Proofs.YtlckhaodecdbbaaGreatDoor
open Go.Cx
attribute [local irreducible] Go.Cx.CX Go.Cx.CC Go.Cx.CQ Go.Cx.PS Go.Cx.Ctr Go.Cx.CH
set_option maxRecDepth 10000
end Go.Proofs.YtlckhaodecdbbaaGreatDoor
/-! Heads, the document's way (ref 06). -/
namespace Go.Proofs.YtlckhaodecdbbaaGreatDoor
open Go.Cx
attribute [local irreducible] Go.Cx.CX Go.Cx.CC Go.Cx.CQ Go.Cx.PS Go.Cx.Ctr Go.Cx.CH
set_option maxRecDepth 10000
theorem r6may_c (h : HdM) : Ctr Tryz.prog 174 [.agg (hc h).toArray] [] (fun _ => True) (fun v M => v = .bool (decide h.may) ∧ M = []) := by
  refine Ctr.intro Tryz.func174 rfl Tryz.ntmps174 rfl fun x w hp => ?_
  refine wk ?_
  (refine CX.boxA (vs := hc h) ?_; intro r)
  by_cases h1 : h.bank < 2
  · by_cases h2 : h.blocks ≤ 4096
    · by_cases h3 : h.batches ≤ h.blocks
      · refine wk ?_
        ((apply CQ.end1; (· rfl); (· exact .tmp rfl)); (· exact ⟨by rw [decide_eq_true (show h.may from ⟨h1, h2, h3⟩)], rfl⟩); (· exact selA))
      · refine wk ?_
        ((apply CQ.end1; (· rfl); (· exact .tmp rfl)); (· exact ⟨by rw [decide_eq_false (show ¬ h.may from fun q => h3 q.2.2)], rfl⟩); (· exact selA))
    · refine wk ?_
      ((apply CQ.end1; (· rfl); (· exact .tmp rfl)); (· exact ⟨by rw [decide_eq_false (show ¬ h.may from fun q => h2 q.2.1)], rfl⟩); (· exact selA))
  · refine wk ?_
    ((apply CQ.end1; (· rfl); (· exact .tmp rfl)); (· exact ⟨by rw [decide_eq_false (show ¬ h.may from fun q => h1 q.1)], rfl⟩); (· exact selA))
theorem r6number_c (n : Nat) : Ctr Tryz.prog 173 [.int .u64 (n : Int)] [] (fun _ => True) (fun v M => v = .bool (decide (1 ≤ n ∧ n ≤ 4611686018427387904)) ∧ M = []) := by
  refine Ctr.intro Tryz.func173 rfl Tryz.ntmps173 rfl fun x w hp => ?_
  by_cases h1 : 1 ≤ n
  · by_cases h2 : n ≤ 4611686018427387904
    · refine wk ?_
      ((apply CQ.end1; (· rfl); (· exact .tmp rfl)); (· exact ⟨by rw [decide_eq_true ⟨h1, h2⟩], rfl⟩); (· exact selA))
    · refine wk ?_
      ((apply CQ.end1; (· rfl); (· exact .tmp rfl)); (· exact ⟨by rw [decide_eq_false (fun q => h2 q.2)], rfl⟩); (· exact selA))
  · refine wk ?_
    ((apply CQ.end1; (· rfl); (· exact .tmp rfl)); (· exact ⟨by rw [decide_eq_false (fun q => h1 q.1)], rfl⟩); (· exact selA))
theorem r6put_c (n : Nat) (hn : n ≤ top) (h : HdM) (ok : h.ok) : Ctr Tryz.prog 148 [.int .u64 (n : Int), .agg (hc h).toArray] [] (fun _ => True) (fun v M => v = .tuple #[.agg (cb (putH n h).1).toArray, .int .i64 (putH n h).2] ∧ M = []) := by
  have o1 := ok.bank
  have o2 := ok.blocks
  have o3 := ok.batches
  refine Ctr.intro Tryz.func148 rfl Tryz.ntmps148 rfl fun x w hp => ?_
  refine wk ?_
  (refine CX.boxA (vs := hc h) ?_; intro r)
  (refine CX.allocZ (cb zblk) ?_; intro s)
  refine wk ?_
  by_cases h1 : 1 ≤ n ∧ n ≤ 4611686018427387904
  · (have cc := r6number_c n; simp only [decide_eq_true h1] at cc; refine CX.callA cc ?_; clear cc; rintro _ _ ⟨rfl, rfl⟩)
    by_cases h3 : h.may
    · have e : putH n h = (sealB n h.bytes, 0) := putH_eq h1.1 h1.2 h3
      have ep : putM n h.bytes = (sealB n h.bytes, 0) := by unfold putM; rw [if_neg (by omega), if_neg (by rw [bytes_len]; omega)]
      have wB : WB (sealB n h.bytes) := sealB_WB (by rw [bytes_len]; omega)
      have hbk : ((UInt8.ofNat h.bank).toNat : Int) = (h.bank : Int) := by simp; omega
      rw [e]
      refine wk ?_
      ((apply CX.ps; (· apply PS.loadG (vs := hc h); (· rfl); (· rfl); (· exact CellsAt.all (by first | exact pickA | exact updA)); (· rfl))))
      (have cc := r6may_c h; simp only [decide_eq_true h3] at cc; refine CX.callA cc ?_; clear cc; rintro _ _ ⟨rfl, rfl⟩)
      refine wk ?_
      refine CX.callA (rput_c h.blocks 4 (by omega) (by omega)) ?_
      rintro _ _ ⟨b1, c1, rfl, rfl⟩
      refine wk ?_
      refine CX.callA (rput_c h.batches 4 (by omega) (by omega)) ?_
      rintro _ _ ⟨b2, c2, rfl, rfl⟩
      refine wk ?_
      apply CX.buildSl (vs := [(0, .int .u8 ((UInt8.ofNat h.bank).toNat : Int))]) (out := cb (le 1 h.bank))
      · rfl
      · simp only [evp]; rw [hbk]; rfl
      · decide
      · simp [fillL, Value.cells, setL, cb, ib, le]
      intro bq
      refine CX.ownBk (m := 1) (sz := 1) (by first | exact pickA | exact updA) (by simp) (by decide) ?_
      refine wk ?_
      apply CX.append (m := 4) (news := cb (le 4 h.blocks))
      · rfl
      · rfl
      · rfl
      · first | exact pickA | exact updA
      · exact RdS.own (e := 5) (by first | exact pickA | exact updA) (one_cb _) rfl
      · simp
      · intro hh; cases hh
      intro a3 c3
      rw [← cb_append]
      refine wk ?_
      apply CX.append (m := 4) (news := cb (le 4 h.batches))
      · rfl
      · rfl
      · rfl
      · first | exact pickA | exact updA
      · exact RdS.own (e := 5) (by first | exact pickA | exact updA) (one_cb _) rfl
      · simp
      · intro hh; cases hh
      intro a4 c4
      rw [← cb_append, List.append_assoc, show le 1 h.bank ++ (le 4 h.blocks ++ le 4 h.batches) = h.bytes from rfl]
      refine wk ?_
      have cc := r5put_c n hn h.bytes (by rw [bytes_len]; omega) a4 c4
      rw [ep, bytes_len] at cc
      refine CX.callA (cc) ?_ (hpre := by exact rdx_own (e := 5) (by first | exact pickA | exact updA) (by rw [bytes_len]))
      clear cc
      rintro _ _ ⟨rfl, rfl⟩
      refine wk ?_
      (apply CX.storeAll; (· rfl); (· rfl); (· rfl); (· first | exact pickA | exact updA); (· exact wB.len); (· exact WB_z.len); (· exact one_cb _))
      refine wk ?_
      ((apply CQ.end2; (· rfl); (· exact .cells inferInstance rfl (CellsAt.all (by first | exact pickA | exact updA)) (wB.len)); (· exact .tmp rfl)); (· exact ⟨rfl, rfl⟩); (· exact selA))
    · have e : putH n h = (zblk, 2) := by unfold putH; rw [if_pos (.inr (.inr h3))]
      rw [e]
      refine wk ?_
      ((apply CX.ps; (· apply PS.loadG (vs := hc h); (· rfl); (· rfl); (· exact CellsAt.all (by first | exact pickA | exact updA)); (· rfl))))
      (have cc := r6may_c h; simp only [decide_eq_false h3] at cc; refine CX.callA cc ?_; clear cc; rintro _ _ ⟨rfl, rfl⟩)
      refine wk ?_
      (apply CX.ps; (· apply PS.buildZ (vs := cb zblk); (· rfl); (· simp [cb_z, Value.cells])))
      (apply CX.storeAll; (· rfl); (· rfl); (· rfl); (· first | exact pickA | exact updA); (· exact WB_z.len); (· exact WB_z.len); (· exact one_cb _))
      refine wk ?_
      ((apply CQ.end2; (· rfl); (· exact .cells inferInstance rfl (CellsAt.all (by first | exact pickA | exact updA)) (WB_z.len)); (· exact .tmp rfl)); (· exact ⟨rfl, rfl⟩); (· exact selA))
  · have e : putH n h = (zblk, 2) := by
      unfold putH; rw [if_pos]
      by_cases h2 : n = 0
      · exact .inl h2
      · exact .inr (.inl (by simp only [most]; omega))
    rw [e]
    (have cc := r6number_c n; simp only [decide_eq_false h1] at cc; refine CX.callA cc ?_; clear cc; rintro _ _ ⟨rfl, rfl⟩)
    refine wk ?_
    (apply CX.ps; (· apply PS.buildZ (vs := cb zblk); (· rfl); (· simp [cb_z, Value.cells])))
    (apply CX.storeAll; (· rfl); (· rfl); (· rfl); (· first | exact pickA | exact updA); (· exact WB_z.len); (· exact WB_z.len); (· exact one_cb _))
    refine wk ?_
    ((apply CQ.end2; (· rfl); (· exact .cells inferInstance rfl (CellsAt.all (by first | exact pickA | exact updA)) (WB_z.len)); (· exact .tmp rfl)); (· exact ⟨rfl, rfl⟩); (· exact selA))
theorem r6get_c (B : Blk) (hB : WB B) : Ctr Tryz.prog 169 [.agg (cb B).toArray] [] (fun _ => True) (GotH B) := by
  have hB' : B.length = 128 := hB
  have hH := getH_eq hB
  refine Ctr.intro Tryz.func169 rfl Tryz.ntmps169 rfl fun x w hp => ?_
  refine wk ?_
  (refine CX.boxA ?_; intro r)
  refine wk ?_
  refine CX.allocZ (hc HdM.z) ?_ (hv := rfl)
  intro rh
  refine wk ?_
  ((apply CX.ps; (· apply PS.loadG (vs := cb (B)); (· rfl); (· rfl); (· exact CellsAt.all (by first | exact pickA | exact updA)); (· exact hB.len))))
  refine CX.callA (r5get_c B hB) ?_
  rintro _ _ ⟨a, c, rfl, rfl⟩
  by_cases he : (getM B).2.2 = 0
  · have hv := get_valid he
    have g := get_ok hv
    have hl : ((B.drop 8).take 108).length = 108 := by simp; omega
    have eb : (getM B).2.1 = (B.drop 8).take 108 := by rw [g]
    have hn : (getM B).1 < 18446744073709551616 := getM_lt B
    rw [if_neg (by simp [he]), eb] at hH
    rw [eb, hl, he]
    generalize (B.drop 8).take 108 = D at hl hH
    generalize (getM B).1 = n at hn hH
    have ok := ofBody_ok D
    have wP := putH_WB6 n (ofBody D)
    refine CX.fact (own_fact (e := 5) (by first | exact pickA | exact updA) (by omega)) ?_
    rintro ⟨hc1, q, rfl⟩
    have b1 := ofLe_tk D 1
    have b2 := ofLe_tk (D.drop 1) 4
    have b3 := ofLe_tk (D.drop 5) 4
    have e0 : ofLe (D.take 1) = (D[0]'(by omega)).toNat := by
      rw [List.take_succ_eq_append_getElem (by omega)]; simp [ofLe]
    have g1 := getN_at (B := D) (p := 1) (k := 4) (by omega) (by omega)
    have g2 := getN_at (B := D) (p := 5) (k := 4) (by omega) (by omega)
    refine wk ?_
    have cc := rget_c D (some ⟨q, 0, none⟩) c 1 4 (by omega) (by omega) (by omega)
    rw [hl, show getN D 1 4 = _ from g1] at cc
    refine CX.callA (cc) ?_ (hpre := by exact rdx_own (e := 5) (by first | exact pickA | exact updA) hl.symm)
    clear cc
    rintro _ _ ⟨rfl, rfl⟩
    refine wk ?_
    have cc := rget_c D (some ⟨q, 0, none⟩) c 5 4 (by omega) (by omega) (by omega)
    rw [hl, show getN D 5 4 = _ from g2] at cc
    refine CX.callA (cc) ?_ (hpre := by exact rdx_own (e := 5) (by first | exact pickA | exact updA) hl.symm)
    clear cc
    rintro _ _ ⟨rfl, rfl⟩
    refine wk ?_
    (refine CX.index0 (0) ?_ ?_; (· omega))
    (refine CX.loadA _ (CellAt.ownB (j := 0) (by first | exact pickA | exact updA) (by omega)) ?_)
    rw [← e0]
    refine wk ?_
    (apply CX.ps; (· apply PS.build (out := hc (ofBody D)); (· rfl); (· rfl); (· rfl)))
    refine CX.allocZ (hc HdM.z) ?_ (hv := rfl)
    intro rk
    (refine CX.storeB (vs := hc (ofBody D)) ?_ ?_ ?_ ?_; (· rfl); (· rfl); (· exact one_all rfl))
    refine wk ?_
    ((apply CX.ps; (· apply PS.loadG (vs := hc (ofBody D)); (· rfl); (· rfl); (· exact CellsAt.all (by first | exact pickA | exact updA)); (· rfl))))
    refine CX.callA (r6put_c n (by simp only [top]; omega) (ofBody D) ok) ?_
    rintro _ _ ⟨rfl, rfl⟩
    generalize (putH n (ofBody D)).1 = P at *
    generalize (putH n (ofBody D)).2 = ep at *
    refine wk ?_
    (refine CX.allocZ (cb zblk) ?_; intro rp)
    refine wk ?_
    (apply CX.storeAll; (· rfl); (· rfl); (· rfl); (· first | exact pickA | exact updA); (· exact wP.len); (· exact WB_z.len); (· exact one_cb _))
    by_cases h1 : ep = 0
    · by_cases h2 : P = B
      · have e : getH B = (n, ofBody D, 0) := by rw [hH, if_neg]; rintro (k | k) <;> first | exact k h1 | exact k h2
        refine wk ?_
        ((apply CX.ps; (· apply PS.loadG (vs := cb (P)); (· rfl); (· rfl); (· exact CellsAt.all (by first | exact pickA | exact updA)); (· exact wP.len))))
        ((apply CX.ps; (· apply PS.loadG (vs := cb (B)); (· rfl); (· rfl); (· exact CellsAt.all (by first | exact pickA | exact updA)); (· exact hB.len))))
        (apply CX.ps; (· refine PS.toF (PS.neqB (a := P) (b := B) ?_ ?_ ?_ ?_ ?_) ?_; (· rfl); (· rfl); (· rfl); (· exact wP); (· exact hB); (· simp [h2])))
        refine wk ?_
        refine CC.draw [(0, 0), (1, 1), (2, 0), (3, 3), (4, 0)] mixed rfl (by kernel_rfl) (by kernel_rfl) [bk rk 121 (hc (ofBody D))] ?_
        refine hwk ?_
        (apply CH.read; (· rfl); (· apply PS.loadG (vs := hc (ofBody D)); (· rfl); (· rfl); (· exact CellsAt.all (by first | exact pickA | exact updA)); (· rfl)); (· exact selA))
        refine hwk ?_
        refine CH.tail rfl rfl fun K hK => ?_
        (refine CX.storeB (vs := hc (ofBody D)) ?_ ?_ ?_ ?_; (· rfl); (· rfl); (· exact one_all rfl))
        (refine CX.nil ?_; refine CQ.thenK ?_; apply hK; clear hK K)
        refine hwk ?_
        refine wk ?_
        (apply CQ.end3; (· rfl); (· exact .tmp rfl); (· exact .cells inferInstance rfl (CellsAt.all (by first | exact pickA | exact updA)) rfl); (· exact .tmp rfl))
        · exact ⟨by rw [e] <;> rfl, rfl⟩
        · exact selA
      · have e : getH B = (0, HdM.z, 5) := by rw [hH, if_pos (.inr h2)]
        refine wk ?_
        ((apply CX.ps; (· apply PS.loadG (vs := cb (P)); (· rfl); (· rfl); (· exact CellsAt.all (by first | exact pickA | exact updA)); (· exact wP.len))))
        ((apply CX.ps; (· apply PS.loadG (vs := cb (B)); (· rfl); (· rfl); (· exact CellsAt.all (by first | exact pickA | exact updA)); (· exact hB.len))))
        (apply CX.ps; (· refine PS.toT (PS.neqB (a := P) (b := B) ?_ ?_ ?_ ?_ ?_) ?_; (· rfl); (· rfl); (· rfl); (· exact wP); (· exact hB); (· exact h2)))
        refine wk ?_
        (apply CX.ps; (· apply PS.build (vs := []) (out := hc HdM.z); (· rfl); (· rfl); (· rfl)))
        refine wk ?_
        (refine CX.storeB (vs := hc HdM.z) ?_ ?_ ?_ ?_; (· rfl); (· rfl); (· exact one_all rfl))
        refine wk ?_
        (apply CQ.end3; (· rfl); (· exact .tmp rfl); (· exact .cells inferInstance rfl (CellsAt.all (by first | exact pickA | exact updA)) rfl); (· exact .tmp rfl))
        · exact ⟨by rw [e] <;> rfl, rfl⟩
        · exact selA
    · have e : getH B = (0, HdM.z, 5) := by rw [hH, if_pos (.inl h1)]
      refine wk ?_
      (apply CX.ps; (· apply PS.build (vs := []) (out := hc HdM.z); (· rfl); (· rfl); (· rfl)))
      refine wk ?_
      (refine CX.storeB (vs := hc HdM.z) ?_ ?_ ?_ ?_; (· rfl); (· rfl); (· exact one_all rfl))
      refine wk ?_
      (apply CQ.end3; (· rfl); (· exact .tmp rfl); (· exact .cells inferInstance rfl (CellsAt.all (by first | exact pickA | exact updA)) rfl); (· exact .tmp rfl))
      · exact ⟨by rw [e] <;> rfl, rfl⟩
      · exact selA
  · have e : getH B = (0, HdM.z, (getM B).2.2) := by unfold getH; rw [if_pos he]
    generalize (getM B).2.2 = er at he e
    refine wk ?_
    (apply CX.ps; (· apply PS.build (vs := []) (out := hc HdM.z); (· rfl); (· rfl); (· rfl)))
    refine wk ?_
    (refine CX.storeB (vs := hc HdM.z) ?_ ?_ ?_ ?_; (· rfl); (· rfl); (· exact one_all rfl))
    refine wk ?_
    (apply CQ.end3; (· rfl); (· exact .tmp rfl); (· exact .cells inferInstance rfl (CellsAt.all (by first | exact pickA | exact updA)) rfl); (· exact .tmp rfl))
    · exact ⟨by rw [e] <;> rfl, rfl⟩
    · exact selA
theorem r6newest_c (A B : Blk) (hA : WB A) (hB : WB B) : Ctr Tryz.prog 143 [.agg (cb A).toArray, .agg (cb B).toArray] [] (fun _ => True)
    (fun v M => v = .tuple #[.int .u64 ((newH A B).1 : Int), .agg (hc (newH A B).2.1).toArray, .int .i64 (newH A B).2.2] ∧ M = []) := by
  refine Ctr.intro Tryz.func143 rfl Tryz.ntmps143 rfl fun x w hp => ?_
  refine wk ?_
  (refine CX.boxA ?_; intro r)
  refine wk ?_
  (refine CX.boxA ?_; intro s)
  refine wk ?_
  refine CX.allocZ (hc HdM.z) ?_ (hv := rfl)
  intro ro
  refine wk ?_
  ((apply CX.ps; (· apply PS.loadG (vs := cb (A)); (· rfl); (· rfl); (· exact CellsAt.all (by first | exact pickA | exact updA)); (· exact hA.len))))
  refine CX.callA (r6get_c A hA) ?_
  rintro _ _ ⟨rfl, rfl⟩
  refine wk ?_
  refine CX.allocZ (hc HdM.z) ?_ (hv := rfl)
  intro ra
  refine wk ?_
  (refine CX.storeB (vs := hc (getH A).2.1) ?_ ?_ ?_ ?_; (· rfl); (· rfl); (· exact one_all rfl))
  refine wk ?_
  ((apply CX.ps; (· apply PS.loadG (vs := cb (B)); (· rfl); (· rfl); (· exact CellsAt.all (by first | exact pickA | exact updA)); (· exact hB.len))))
  refine CX.callA (r6get_c B hB) ?_
  rintro _ _ ⟨rfl, rfl⟩
  refine wk ?_
  refine CX.allocZ (hc HdM.z) ?_ (hv := rfl)
  intro rb
  refine wk ?_
  (refine CX.storeB (vs := hc (getH B).2.1) ?_ ?_ ?_ ?_; (· rfl); (· rfl); (· exact one_all rfl))
  have eN := newH_eq A B
  generalize newH A B = N at eN
  generalize (getH A).2.2 = ea at eN
  generalize (getH B).2.2 = eb at eN
  generalize (getH A).1 = na at eN
  generalize (getH B).1 = nb at eN
  generalize (getH A).2.1 = ka at eN
  generalize (getH B).2.1 = kb at eN
  by_cases h1 : ea ≠ 0 ∧ eb ≠ 0
  · have e : N = (0, HdM.z, 7) := by rw [eN, if_pos h1]
    obtain ⟨h2, h3⟩ := h1
    refine wk ?_
    (apply CX.ps; (· apply PS.build (vs := []) (out := hc HdM.z); (· rfl); (· rfl); (· rfl)))
    refine wk ?_
    (refine CX.storeB (vs := hc HdM.z) ?_ ?_ ?_ ?_; (· rfl); (· rfl); (· exact one_all rfl))
    refine wk ?_
    (apply CQ.end3; (· rfl); (· exact .tmp rfl); (· exact .cells inferInstance rfl (CellsAt.all (by first | exact pickA | exact updA)) rfl); (· exact .tmp rfl))
    · exact ⟨by rw [e] <;> rfl, rfl⟩
    · exact selA
  · rw [if_neg h1] at eN
    have h1' : ea = 0 ∨ ea ≠ 0 ∧ eb = 0 := by omega
    by_cases h4 : na < nb
    · have e : N = (nb, kb, 0) := by rw [eN, if_pos h4]
      rcases h1' with h2 | ⟨h2, h3⟩
      · refine wk ?_
        refine CC.draw [(0, 0), (1, 1), (2, 0), (3, 3), (4, 0)] mixed rfl (by kernel_rfl) (by kernel_rfl) [bk rb 121 (hc kb)] ?_
        refine hwk ?_
        (apply CH.read; (· rfl); (· apply PS.loadG (vs := hc kb); (· rfl); (· rfl); (· exact CellsAt.all (by first | exact pickA | exact updA)); (· rfl)); (· exact selA))
        refine hwk ?_
        refine CH.tail rfl rfl fun K hK => ?_
        (refine CX.storeB (vs := hc kb) ?_ ?_ ?_ ?_; (· rfl); (· rfl); (· exact one_all rfl))
        (refine CX.nil ?_; refine CQ.thenK ?_; apply hK; clear hK K)
        refine hwk ?_
        refine wk ?_
        (apply CQ.end3; (· rfl); (· exact .tmp rfl); (· exact .cells inferInstance rfl (CellsAt.all (by first | exact pickA | exact updA)) rfl); (· exact .tmp rfl))
        · exact ⟨by rw [e] <;> rfl, rfl⟩
        · exact selA
      · refine wk ?_
        refine CC.draw [(0, 0), (1, 1), (2, 0), (3, 3), (4, 0)] mixed rfl (by kernel_rfl) (by kernel_rfl) [bk rb 121 (hc kb)] ?_
        refine hwk ?_
        (apply CH.read; (· rfl); (· apply PS.loadG (vs := hc kb); (· rfl); (· rfl); (· exact CellsAt.all (by first | exact pickA | exact updA)); (· rfl)); (· exact selA))
        refine hwk ?_
        refine CH.tail rfl rfl fun K hK => ?_
        (refine CX.storeB (vs := hc kb) ?_ ?_ ?_ ?_; (· rfl); (· rfl); (· exact one_all rfl))
        (refine CX.nil ?_; refine CQ.thenK ?_; apply hK; clear hK K)
        refine hwk ?_
        refine wk ?_
        (apply CQ.end3; (· rfl); (· exact .tmp rfl); (· exact .cells inferInstance rfl (CellsAt.all (by first | exact pickA | exact updA)) rfl); (· exact .tmp rfl))
        · exact ⟨by rw [e] <;> rfl, rfl⟩
        · exact selA
    · have e : N = (na, ka, 0) := by rw [eN, if_neg h4]
      rcases h1' with h2 | ⟨h2, h3⟩
      · refine wk ?_
        refine CC.draw [(0, 0), (1, 1), (2, 0), (3, 3), (4, 0)] mixed rfl (by kernel_rfl) (by kernel_rfl) [bk ra 121 (hc ka)] ?_
        refine hwk ?_
        (apply CH.read; (· rfl); (· apply PS.loadG (vs := hc ka); (· rfl); (· rfl); (· exact CellsAt.all (by first | exact pickA | exact updA)); (· rfl)); (· exact selA))
        refine hwk ?_
        refine CH.tail rfl rfl fun K hK => ?_
        (refine CX.storeB (vs := hc ka) ?_ ?_ ?_ ?_; (· rfl); (· rfl); (· exact one_all rfl))
        (refine CX.nil ?_; refine CQ.thenK ?_; apply hK; clear hK K)
        refine hwk ?_
        refine wk ?_
        (apply CQ.end3; (· rfl); (· exact .tmp rfl); (· exact .cells inferInstance rfl (CellsAt.all (by first | exact pickA | exact updA)) rfl); (· exact .tmp rfl))
        · exact ⟨by rw [e] <;> rfl, rfl⟩
        · exact selA
      · refine wk ?_
        refine CC.draw [(0, 0), (1, 1), (2, 0), (3, 3), (4, 0)] mixed rfl (by kernel_rfl) (by kernel_rfl) [bk ra 121 (hc ka)] ?_
        refine hwk ?_
        (apply CH.read; (· rfl); (· apply PS.loadG (vs := hc ka); (· rfl); (· rfl); (· exact CellsAt.all (by first | exact pickA | exact updA)); (· rfl)); (· exact selA))
        refine hwk ?_
        refine CH.tail rfl rfl fun K hK => ?_
        (refine CX.storeB (vs := hc ka) ?_ ?_ ?_ ?_; (· rfl); (· rfl); (· exact one_all rfl))
        (refine CX.nil ?_; refine CQ.thenK ?_; apply hK; clear hK K)
        refine hwk ?_
        refine wk ?_
        (apply CQ.end3; (· rfl); (· exact .tmp rfl); (· exact .cells inferInstance rfl (CellsAt.all (by first | exact pickA | exact updA)) rfl); (· exact .tmp rfl))
        · exact ⟨by rw [e] <;> rfl, rfl⟩
        · exact selA
end Go.Proofs.YtlckhaodecdbbaaGreatDoor
/-! The document's journal (ref 07): its small functions, in the program; and a row that is read (ref 01). -/
namespace Go.Proofs.YtlckhaodecdbbaaGreatDoor
open Go.Cx
attribute [local irreducible] Go.Cx.CX Go.Cx.CC Go.Cx.CQ Go.Cx.PS Go.Cx.Ctr Go.Cx.CH
set_option maxRecDepth 10000
theorem r1getrow_c (B : Blk) (hB : B.length ≤ 70368744177664) (a : Option Addr) (cap : Nat) (hcap : B.length ≤ cap) (at_ most : Nat) (hat : at_ ≤ 70368744177664) (hm : most ≤ 1073741824) : Ctr Tryz.prog 152 [.slice a B.length cap, .int .i64 (at_ : Int), .int .i64 (most : Int)] [] (fun x => rdx a B.length (cb B) x)
    (GotRow B at_ most) := by
  unfold GotRow
  refine Ctr.intro Tryz.func152 rfl Tryz.ntmps152 rfl fun x w hp => ?_
  refine wk ?_
  refine CX.callA (rget_c B a cap (at_ : Int) 4 (by omega) (by omega) (by omega)) ?_ (hpre := by exact rdx_ex (by first | exact pickA | exact updA) hp)
  rw [getN_four]
  by_cases h1 : B.length < at_
  · have e : Cx.rowAt B at_ most = ([], 0, 2) := by unfold Cx.rowAt; rw [if_pos h1]
    rw [if_pos h1, e]
    rintro _ _ ⟨rfl, rfl⟩
    refine wk ?_
    refine CQ.ownNil 5 1 ?_
    (apply CQ.end3; (· rfl); (· exact .tmp rfl); (· exact .tmp rfl); (· exact .tmp rfl))
    · exact ⟨none, 0, rfl, rfl⟩
    · exact selA
  by_cases h2 : B.length - at_ < 4
  · have e : Cx.rowAt B at_ most = ([], 0, 4) := by unfold Cx.rowAt; rw [if_neg h1, if_pos h2]
    rw [if_neg h1, if_pos h2, e]
    rintro _ _ ⟨rfl, rfl⟩
    refine wk ?_
    refine CQ.ownNil 5 1 ?_
    (apply CQ.end3; (· rfl); (· exact .tmp rfl); (· exact .tmp rfl); (· exact .tmp rfl))
    · exact ⟨none, 0, rfl, rfl⟩
    · exact selA
  have hn32 := ofLe_lt ((B.drop at_).take 4)
  rw [show ((B.drop at_).take 4).length = 4 by simp; omega] at hn32
  have hrow : Cx.rowAt B at_ most = if most < ofLe ((B.drop at_).take 4) then ([], 0, 3) else if B.length - (at_ + 4) < ofLe ((B.drop at_).take 4) then ([], 0, 4)
    else ((B.drop (at_ + 4)).take (ofLe ((B.drop at_).take 4)), at_ + 4 + ofLe ((B.drop at_).take 4), 0) := by
    unfold Cx.rowAt; rw [if_neg h1, if_neg h2]
  rw [if_neg h1, if_neg h2]
  generalize ofLe ((B.drop at_).take 4) = k at hn32 hrow
  rintro _ _ ⟨rfl, rfl⟩
  by_cases h3 : most < k
  · rw [hrow, if_pos h3]
    refine wk ?_
    refine CQ.ownNil 5 1 ?_
    (apply CQ.end3; (· rfl); (· exact .tmp rfl); (· exact .tmp rfl); (· exact .tmp rfl))
    · exact ⟨none, 0, rfl, rfl⟩
    · exact selA
  obtain ⟨g, off, rfl⟩ := rdx_some hp (by omega)
  by_cases h4 : B.length - (at_ + 4) < k
  · rw [hrow, if_neg h3, if_pos h4]
    refine wk ?_
    refine CQ.ownNil 5 1 ?_
    (apply CQ.end3; (· rfl); (· exact .tmp rfl); (· exact .tmp rfl); (· exact .tmp rfl))
    · exact ⟨none, 0, rfl, rfl⟩
    · exact selA
  · rw [hrow, if_neg h3, if_neg h4]
    have hlen : ((B.drop (at_ + 4)).take k).length = k := by simp; omega
    refine CX.ownNil 5 1 ?_
    refine wk ?_
    refine CX.ps (PS.slice (l := at_ + 4) (h := at_ + 4 + k) rfl rfl rfl rfl (.inr ⟨_, eqI (by simp)⟩) (.inr ⟨_, eqI (by simp)⟩) (by omega) (by omega)) ?_
    have hr : ∀ y, Sep [own 5 1 none 0 0 [], exact x] y → rdx (cutAt (some ⟨g, off, none⟩) (at_ + 4) cap 1) (at_ + 4 + k - (at_ + 4)) (cb ((B.drop (at_ + 4)).take k)) y := fun y hy => by
      have := rdx_cut2 (l := at_ + 4) (m := at_ + 4 + k) (cap := cap) (rdx_ex (show Pick (exact x) [own 5 1 none 0 0 [], exact x] _ from by first | exact pickA | exact updA) hp y hy) rfl (by omega) (by omega) (by omega)
      rw [Nat.add_sub_cancel_left] at this ⊢
      exact this
    refine CX.append (m := at_ + 4 + k - (at_ + 4)) (news := cb ((B.drop (at_ + 4)).take k)) rfl rfl rfl (by first | exact pickA | exact updA) (rdS_of hr (by omega)) (by omega) (fun h => by unfold cutAt at h; split at h <;> cases h) ?_
    intro a' c'
    rw [List.nil_append, Nat.zero_add, Nat.add_sub_cancel_left]
    refine wk ?_
    (apply CQ.end3; (· rfl); (· exact .tmp rfl); (· exact .tmp rfl); (· exact .tmp rfl))
    · exact ⟨a', c', by rw [hlen]; simp, by rw [hlen]⟩
    · exact selA
def rjA (q r : Nat) : Assn := bk q 103 [.pointer (some ⟨r, 0, none⟩)]
theorem r7bank_c (q r : Nat) (D : DS) {N : Nat} (h : D.wf N) : Ctr Tryz.prog 103 [.pointer (some ⟨q, 0, none⟩)] [rjA q r, rdisk r D] (fun _ => True) (fun v M => v = .int .i64 (bankM D : Int) ∧ M = [rjA q r, rdisk r D]) := by
  have h1 := h.lo
  have h2 := h.hi
  unfold rjA
  refine Ctr.intro Tryz.func103 rfl Tryz.ntmps103 rfl fun x w hp => ?_
  refine wk ?_
  refine CX.callA (rblocks_c r D) ?_
  rintro _ _ ⟨rfl, rfl⟩
  refine wk ?_
  refine CX.ps (PS.quo rfl rfl rfl (by decide) (bank_int h1 h2)) ?_
  refine wk ?_
  ((apply CQ.end1; (· rfl); (· exact .tmp rfl)); (· exact ⟨rfl, rfl⟩); (· exact selA))
theorem r7first_c (q r : Nat) (D : DS) (b : Nat) (hb : b < 256) {N : Nat} (h : D.wf N) : Ctr Tryz.prog 105 [.pointer (some ⟨q, 0, none⟩), .int .u8 (b : Int)] [rjA q r, rdisk r D] (fun _ => True) (fun v M => v = .int .i64 (firstM D b : Int) ∧ M = [rjA q r, rdisk r D]) := by
  have h2 := h.hi
  have hbk : bankM D ≤ 2048 := by unfold bankM; omega
  have hmul : b * bankM D ≤ 256 * 2048 := Nat.mul_le_mul (by omega) hbk
  refine Ctr.intro Tryz.func105 rfl Tryz.ntmps105 rfl fun x w hp => ?_
  refine wk ?_
  refine CX.callA (r7bank_c q r D h) ?_
  rintro _ _ ⟨rfl, rfl⟩
  refine CX.ps (PS.mul (z := ((b * bankM D : Nat) : Int)) rfl rfl rfl (by rw [← Int.natCast_mul]; exact wr_i64 (by omega) (by omega))) ?_
  unfold firstM
  generalize b * bankM D = z at hmul
  refine wk ?_
  ((apply CQ.end1; (· rfl); (· exact .tmp rfl)); (· exact ⟨by congr 1, rfl⟩); (· exact selA))
theorem r7read_c (q r : Nat) (D : DS) (n : Int) {N : Nat} (h : D.wf N) (hN : N < 1000000) : Ctr Tryz.prog 144 [.pointer (some ⟨q, 0, none⟩), .int .i64 n] [rjA q r, rdisk r D] (fun _ => True) (fun v M => v = .agg (cb (D.read n).1).toArray ∧ M = [rjA q r, rdisk r D]) := by
  have hw := read_WB h n
  unfold rjA
  refine Ctr.intro Tryz.func144 rfl Tryz.ntmps144 rfl fun x w hp => ?_
  refine wk ?_
  refine CX.allocZ (cb zblk) ?_
  intro q4
  refine wk ?_
  refine CX.callA (rread_c r D n h hN) ?_
  rintro _ _ ⟨rfl, rfl⟩
  generalize (D.read n).1 = X at *
  refine wk ?_
  refine CX.allocZ (cb zblk) ?_
  intro q5
  (apply CX.storeAll; (· rfl); (· rfl); (· rfl); (· first | exact pickA | exact updA); (· exact hw.len); (· exact WB_z.len); (· exact one_cb _))
  refine wk ?_
  (apply CX.ps; (· apply PS.loadG (vs := cb X); (· rfl); (· rfl); (· exact CellsAt.all (by first | exact pickA | exact updA)); (· exact hw.len)))
  (apply CX.storeAll; (· rfl); (· rfl); (· rfl); (· first | exact pickA | exact updA); (· exact hw.len); (· exact WB_z.len); (· exact one_cb _))
  refine wk ?_
  (apply CQ.end1; (· rfl); (· exact .cells inferInstance rfl (CellsAt.all (by first | exact pickA | exact updA)) (hw.len)))
  · exact ⟨rfl, rfl⟩
  · exact selA
def newR (D : DS) : Nat × HdM × Int := newH (D.read 0).1 (D.read 1).1
theorem r7newest_c (q r : Nat) (D : DS) {N : Nat} (h : D.wf N) (hN : N < 1000000) : Ctr Tryz.prog 102 [.pointer (some ⟨q, 0, none⟩)] [rjA q r, rdisk r D] (fun _ => True)
    (fun v M => v = .tuple #[.int .u64 ((newR D).1 : Int), .agg (hc (newR D).2.1).toArray, .int .i64 (newR D).2.2] ∧ M = [rjA q r, rdisk r D]) := by
  have w0 := read_WB h 0
  have w1 := read_WB h 1
  unfold newR
  refine Ctr.intro Tryz.func102 rfl Tryz.ntmps102 rfl fun x w hp => ?_
  refine wk ?_
  refine CX.allocZ (hc HdM.z) ?_ (hv := rfl)
  intro q3
  refine wk ?_
  refine CX.callA (r7read_c q r D 0 h hN) ?_
  rintro _ _ ⟨rfl, rfl⟩
  refine wk ?_
  refine CX.callA (r7read_c q r D 1 h hN) ?_
  rintro _ _ ⟨rfl, rfl⟩
  refine CX.callA (r6newest_c _ _ w0 w1) ?_
  generalize newH (D.read 0).1 (D.read 1).1 = u at *
  rintro _ _ ⟨rfl, rfl⟩
  refine wk ?_
  (refine CX.storeB (vs := hc u.2.1) ?_ ?_ ?_ ?_; (· rfl); (· rfl); (· exact one_all rfl))
  refine wk ?_
  (apply CQ.end3; (· rfl); (· exact .tmp rfl); (· exact .cells inferInstance rfl (CellsAt.all (by first | exact pickA | exact updA)) rfl); (· exact .tmp rfl))
  · exact ⟨rfl, rfl⟩
  · exact selA
end Go.Proofs.YtlckhaodecdbbaaGreatDoor
/-! ref 08: Get of a batch that was put, in the program. -/
namespace Go.Cx
theorem wl_take {m : List ChM} {i : Nat} (h : i < m.length) : wl (m.take (i + 1)) = wl (m.take i) + (chB m[i]).length := by
  unfold wl
  rw [List.take_add_one, List.getElem?_eq_getElem h]
  simp only [Option.toList_some, List.map_append, List.map_cons, List.map_nil, List.flatten_append, List.flatten_cons, List.flatten_nil, List.length_append, List.append_nil]
theorem wl_le (m : List ChM) (i : Nat) : wl (m.take i) ≤ wl m := by
  unfold wl
  conv => rhs; rw [← List.take_append_drop i m]
  simp only [List.map_append, List.flatten_append, List.length_append]
  omega
theorem put_drop (m : List ChM) (i : Nat) (h : i ≤ m.length) : (putB m).drop (4 + wl (m.take i)) = ((m.drop i).map chB).flatten := by
  have e : putB m = (le 4 m.length ++ ((m.take i).map chB).flatten) ++ ((m.drop i).map chB).flatten := by
    unfold putB
    rw [List.append_assoc, ← List.flatten_append, ← List.map_append, List.take_append_drop]
  rw [e, List.drop_left' (by simp [wl])]
theorem put_at {m : List ChM} {i : Nat} (h : i < m.length) : (putB m).drop (4 + wl (m.take i)) = chB m[i] ++ ((m.drop (i + 1)).map chB).flatten := by
  rw [put_drop m i (by omega), List.drop_eq_getElem_cons h, List.map_cons, List.flatten_cons]
theorem mayC_take {m : List ChM} (h : MayC m) (i : Nat) : MayC (m.take i) := ⟨List.Pairwise.sublist (List.take_sublist i m) h.1, fun c hc => h.2 c (List.mem_of_mem_take hc)⟩
end Go.Cx
namespace Go.Proofs.YtlckhaodecdbbaaGreatDoor
open Go.Cx
attribute [local irreducible] Go.Cx.CX Go.Cx.CC Go.Cx.CQ Go.Cx.PS Go.Cx.Ctr Go.Cx.CH
set_option maxRecDepth 10000
set_option maxHeartbeats 1000000 in
theorem r8get_c (m : List ChM) (hm : MayC m) (hml : m.length ≤ 1073741824) (B : Blk) (hBm : B = putB m) (hB : B.length ≤ 70368744000000) (a : Option Addr) (cap : Nat) (hcap : B.length ≤ cap) : Ctr Tryz.prog 111 [.slice a B.length cap] [] (fun x => rdx a B.length (cb B) x)
    (fun v M => ∃ a' c' l, l.map ChV.m = m ∧ v = .tuple #[.slice a' (List.length l) c', .int .i64 0] ∧ M = [chsA a' l] ∧ (a' = none → l.length = 0 ∧ c' = 0) ∧ l.length ≤ c') := by
  have hlen : B.length = 4 + wl m := by rw [hBm, put_wl]
  have hget : getN B 0 4 = (m.length, 0) := by
    rw [getN_zero, if_neg (by omega), hBm]
    have : (putB m).take 4 = le 4 m.length := by rw [putB, List.take_append_of_le_length (by simp), List.take_of_length_le (by simp)]
    rw [this, ofLe_le 4 _ (by omega)]
  refine Ctr.intro Tryz.func111 rfl Tryz.ntmps111 rfl fun x w hp => ?_
  refine wk ?_
  refine CX.callA (rget_c B a cap 0 4 (by omega) (by omega) (by omega)) ?_ (hpre := by exact rdx_ex (by first | exact pickA | exact updA) hp)
  rw [hget]
  rintro _ _ ⟨rfl, rfl⟩
  refine wk ?_
  refine CC.ownNil 68 3 ?_
  refine CC.give (valC []) (fun _ => valC_ok.2 fun _ h => by cases h) ?_
  refine CC.loop (X := Nat × List ChV × Option Addr × Nat) (fun s => [(8, .int .u64 (s.1 : Int)), (4, .int .u64 (m.length : Int)), (6, .int .i64 ((4 + wl (m.take s.1) : Nat) : Int)), (7, .slice s.2.2.1 s.2.1.length s.2.2.2), (0, .slice a B.length cap)])
    (fun s => [own 68 3 s.2.2.1 s.2.1.length s.2.2.2 (rows ChV.cells s.2.1), valC s.2.1, exact x]) (fun s => s.1 ≤ m.length ∧ s.2.1.map ChV.m = m.take s.1) (fun s => m.length - s.1) (0, [], none, 0) ⟨Nat.zero_le _, rfl⟩ ⟨rfl, rfl, rfl, rfl, rfl, trivial⟩ (by exact selA) ?_
  rintro ⟨i, l, a1, c1⟩ ⟨hi, hl⟩
  dsimp only at hi hl ⊢
  have hll : l.length ≤ m.length := by have := congrArg List.length hl; simp at this; omega
  by_cases h1 : i < m.length
  rotate_left
  · rw [show m.take i = m from List.take_of_length_le (by omega)] at hl ⊢
    refine CC.fact (own_none (e := 68) (by first | exact pickA | exact updA)) ?_
    rintro ⟨hn1, hc1, -⟩
    refine CC.merge (chsA a1 l) own_chs ?_
    refine wk ?_
    (apply CQ.end2; (· rfl); (· exact .tmp rfl); (· exact .tmp rfl))
    · exact ⟨a1, c1, l, hl, rfl, rfl, hn1, hc1⟩
    · exact selA
  have hle := wl_le m (i + 1)
  rw [wl_take h1] at hle
  have hdrop := put_at h1
  rw [← hBm] at hdrop
  have hok := hm.2 m[i] (List.getElem_mem h1)
  have hstep := wl_take h1
  have hcl := chB_lo m[i]
  generalize hat : 4 + wl (m.take i) = at_ at *
  have hbits : chB m[i] = rowB (m[i]).key ++ (if (m[i]).gone then [1] else 0 :: rowB (m[i]).val) := rfl
  have hk16 := hok.k2
  have hv20 := hok.v
  have hnx : ((l.map ChV.m) ++ [m[i]]) = m.take (i + 1) := by rw [hl, List.take_add_one, List.getElem?_eq_getElem h1]; rfl
  generalize m[i] = ch at *
  have hb0 : at_ ≤ B.length := by omega
  have hrow : Cx.rowAt B at_ 16 = (ch.key, at_ + 4 + ch.key.length, 0) := rowAt_print hb0 (by rw [hdrop, hbits, List.append_assoc]) hk16 (by omega)
  have hlt : at_ + 4 + ch.key.length < B.length := by split at hcl <;> omega
  have hbyte : B[at_ + 4 + ch.key.length]'hlt = if ch.gone then 1 else 0 := by
    have h0 : (B.drop at_)[4 + ch.key.length]? = some (if ch.gone then 1 else 0) := by
      rw [hdrop, hbits, List.append_assoc, List.getElem?_append_right (by rw [rowB_len]; omega), rowB_len, Nat.sub_self]
      split <;> rfl
    rw [List.getElem?_drop] at h0
    rw [List.getElem?_eq_getElem (by omega)] at h0
    have := Option.some.inj h0
    rw [← this]; congr 1; omega
  obtain ⟨g, off, rfl⟩ := rdx_some hp (by omega)
  have gr := r1getrow_c B (by omega) (some ⟨g, off, none⟩) cap hcap at_ 16 (by omega) (by omega)
  unfold GotRow at gr
  rw [hrow] at gr
  refine wk ?_
  refine CX.callA (gr) ?_ (hpre := by exact rdx_ex (by first | exact pickA | exact updA) hp)
  rintro _ _ ⟨a9, c9, rfl, rfl⟩
  have hne : ¬ ((at_ + 4 + ch.key.length : Nat) : Int) = (B.length : Int) := by omega
  refine wk ?_
  by_cases hg : ch.gone = true
  · rw [if_pos hg] at hbyte
    refine CC.draw [(0, 0), (1, 1), (2, 0), (3, 0), (4, 0), (5, 1), (6, 0), (7, 0), (8, 2), (9, 3)] mixed rfl (by kernel_rfl) (by kernel_rfl) [own 5 1 a9 ch.key.length c9 (cb ch.key), exact x] ?_
    refine hwk ?_
    refine CH.read rfl (PS.toStr rfl rfl rfl (rdx_own (by first | exact pickA | exact updA) rfl)) (by exact selA) ?_
    refine hwk ?_
    refine CH.pure rfl (PS.indexAddr (j := at_ + 4 + ch.key.length) rfl rfl rfl rfl hlt) ?_
    refine CH.read rfl (PS.load (v := .int .u8 ((B[at_ + 4 + ch.key.length]'hlt).toNat : Int)) rfl rfl (CellAt.rd (j := at_ + 4 + ch.key.length) (by first | exact pickA | exact updA) hp rfl hlt)) (by exact selA) ?_
    rw [hbyte]
    refine hwk ?_
    refine CH.pure rfl (PS.build (vs := [(0, sv ch.key), (2, .bool true)]) (out := [sv ch.key, .slice none 0 0, .bool true]) rfl rfl rfl) ?_
    refine CH.chain rfl fun K hK => ?_
    refine CX.allocZ [sv [], .slice none 0 0, .bool false] ?_ (hv := rfl)
    intro b12
    (refine CX.nil ?_; refine CQ.thenK ?_; apply hK; (· exact selA); clear hK K)
    refine CH.tail rfl rfl fun K hK => ?_
    (refine CX.storeB (vs := [sv ch.key, .slice none 0 0, .bool true]) ?_ ?_ ?_ ?_; (· rfl); (· rfl); (· exact one_all rfl))
    (refine CX.nil ?_; refine CQ.thenK ?_; apply hK; clear hK K)
    refine hwk ?_
    refine wk ?_
    (refine CX.indexA (at_ + 4 + ch.key.length) ?_ ?_; (· exact hlt))
    (refine CX.loadA _ (CellAt.rd (j := at_ + 4 + ch.key.length) (by first | exact pickA | exact updA) hp rfl hlt) ?_)
    rw [hbyte]
    refine wk ?_
    (apply CX.ps; (· apply PS.loadG (vs := [sv ch.key, .slice none 0 0, .bool true]); (· rfl); (· rfl); (· exact CellsAt.all (by first | exact pickA | exact updA)); (· rfl)))
    refine CX.buildSl (parts := [(0, _)]) (vs := [(0, .agg #[sv ch.key, .slice none 0 0, .bool true])]) (out := ChV.cells ⟨ch.key, ⟨none, [], 0⟩, true⟩) rfl rfl (by decide) (by simp [fillL, Value.cells, setL, ChV.cells]) fun bq => ?_
    refine CX.append (m := 1) (news := ChV.cells ⟨ch.key, ⟨none, [], 0⟩, true⟩) rfl rfl rfl (by first | exact pickA | exact updA) (RdS.pick (b := bq) (o := 0) (by first | exact pickA | exact updA) rfl (one_all rfl) rfl) (by omega) (fun h => by cases h) ?_
    intro a3 c3
    rw [show rows ChV.cells l ++ ChV.cells ⟨ch.key, ⟨none, [], 0⟩, true⟩ = rows ChV.cells (l ++ [⟨ch.key, ⟨none, [], 0⟩, true⟩]) from by rw [rows_append]; simp [rows], show l.length + 1 = (l ++ [(⟨ch.key, ⟨none, [], 0⟩, true⟩ : ChV)]).length from by simp]
    refine CX.turn (A := valC l) (valC (l ++ [⟨ch.key, ⟨none, [], 0⟩, true⟩])) (fun k s => valC_ok.2 fun q hq => by
      rcases List.mem_append.1 hq with h | h
      · exact valC_ok.1 s q h
      · rw [List.mem_singleton.1 h]; exact slb_nil k) ?_
    have hlm : (l ++ [(⟨ch.key, ⟨none, [], 0⟩, true⟩ : ChV)]).map ChV.m = m.take (i + 1) := by
      rw [List.map_append, ← hnx]
      have : ch = ⟨ch.key, [], true⟩ := by
        have h1 := hok.g hg
        cases ch; simp_all
      conv => rhs; rw [this]
      rfl
    generalize l ++ [(⟨ch.key, ⟨none, [], 0⟩, true⟩ : ChV)] = l' at *
    have hl' : l'.length ≤ m.length := by have := congrArg List.length hlm; simp at this; omega
    have hm' : MayC (l'.map ChV.m) := by rw [hlm]; exact mayC_take hm _
    refine wk ?_
    refine CX.callA (r8mayC_c l' (by omega) a3 c3) ?_ (hpre := by exact fun y hy => ⟨own_rdx (e := 68) (Pick.ok (show Pick (own 68 3 a3 l'.length c3 (rows ChV.cells l')) _ _ from by first | exact pickA | exact updA) hy) (one_ch l'), valC_ok.1 (Pick.ok (show Pick (valC l') _ _ from by first | exact pickA | exact updA) hy)⟩)
    rw [decide_eq_true hm']
    rintro _ _ ⟨rfl, rfl⟩
    refine wk ?_
    rw [if_pos hg] at hcl
    exact CQ.round (x := (i, l, a1, c1)) (i + 1, l', a3, c3) ⟨h1, hlm⟩ (by dsimp only; omega) ⟨eqI (by omega), rfl, eqI (by dsimp only; omega), rfl, rfl, trivial⟩ (by exact selA)
  · rw [if_neg hg] at hbyte
    refine CC.draw [(0, 0), (1, 1), (2, 0), (3, 0), (4, 0), (5, 1), (6, 0), (7, 0), (8, 2), (9, 3)] mixed rfl (by kernel_rfl) (by kernel_rfl) [own 5 1 a9 ch.key.length c9 (cb ch.key), exact x] ?_
    refine hwk ?_
    refine CH.read rfl (PS.toStr rfl rfl rfl (rdx_own (by first | exact pickA | exact updA) rfl)) (by exact selA) ?_
    refine hwk ?_
    refine CH.pure rfl (PS.indexAddr (j := at_ + 4 + ch.key.length) rfl rfl rfl rfl hlt) ?_
    refine CH.read rfl (PS.load (v := .int .u8 ((B[at_ + 4 + ch.key.length]'hlt).toNat : Int)) rfl rfl (CellAt.rd (j := at_ + 4 + ch.key.length) (by first | exact pickA | exact updA) hp rfl hlt)) (by exact selA) ?_
    rw [hbyte]
    refine hwk ?_
    refine CH.pure rfl (PS.build (vs := [(0, sv ch.key), (2, .bool false)]) (out := [sv ch.key, .slice none 0 0, .bool false]) rfl rfl rfl) ?_
    refine CH.chain rfl fun K hK => ?_
    refine CX.allocZ [sv [], .slice none 0 0, .bool false] ?_ (hv := rfl)
    intro b12
    (refine CX.nil ?_; refine CQ.thenK ?_; apply hK; (· exact selA); clear hK K)
    refine CH.tail rfl rfl fun K hK => ?_
    (refine CX.storeB (vs := [sv ch.key, .slice none 0 0, .bool false]) ?_ ?_ ?_ ?_; (· rfl); (· rfl); (· exact one_all rfl))
    (refine CX.nil ?_; refine CQ.thenK ?_; apply hK; clear hK K)
    refine hwk ?_
    refine wk ?_
    (refine CX.indexA (at_ + 4 + ch.key.length) ?_ ?_; (· exact hlt))
    (refine CX.loadA _ (CellAt.rd (j := at_ + 4 + ch.key.length) (by first | exact pickA | exact updA) hp rfl hlt) ?_)
    rw [hbyte]
    refine wk ?_
    rw [if_neg hg] at hcl
    have hrow2 : Cx.rowAt B (at_ + 4 + ch.key.length + 1) 1048576 = (ch.val, at_ + 4 + ch.key.length + 1 + 4 + ch.val.length, 0) := rowAt_print (rest := ((m.drop (i + 1)).map chB).flatten) (by omega) (by
      have h0 : B.drop (at_ + 4 + ch.key.length + 1) = (B.drop at_).drop (4 + ch.key.length + 1) := by rw [List.drop_drop]; congr 1; omega
      rw [h0, hdrop, hbits, if_neg hg, List.append_assoc, ← List.drop_drop, List.drop_left' (by rw [rowB_len])]
      rfl) hv20 (by omega)
    have gr2 := r1getrow_c B (by omega) (some ⟨g, off, none⟩) cap hcap (at_ + 4 + ch.key.length + 1) 1048576 (by omega) (by omega)
    unfold GotRow at gr2
    rw [hrow2] at gr2
    refine CX.callA (gr2) ?_ (hpre := by exact rdx_ex (by first | exact pickA | exact updA) hp)
    rintro _ _ ⟨a10, c10, rfl, rfl⟩
    refine wk ?_
    (apply CX.ps; (· apply PS.loadG (vs := [sv ch.key, .slice a10 ch.val.length c10, .bool false]); (· rfl); (· rfl); (· exact CellsAt.all (by first | exact pickA | exact updA)); (· rfl)))
    refine CX.buildSl (parts := [(0, _)]) (vs := [(0, .agg #[sv ch.key, .slice a10 ch.val.length c10, .bool false])]) (out := ChV.cells ⟨ch.key, ⟨a10, ch.val, c10⟩, false⟩) rfl rfl (by decide) (by simp [fillL, Value.cells, setL, ChV.cells]) fun bq => ?_
    refine CX.append (m := 1) (news := ChV.cells ⟨ch.key, ⟨a10, ch.val, c10⟩, false⟩) rfl rfl rfl (by first | exact pickA | exact updA) (RdS.pick (b := bq) (o := 0) (by first | exact pickA | exact updA) rfl (one_all rfl) rfl) (by omega) (fun h => by cases h) ?_
    intro a3 c3
    rw [show rows ChV.cells l ++ ChV.cells ⟨ch.key, ⟨a10, ch.val, c10⟩, false⟩ = rows ChV.cells (l ++ [⟨ch.key, ⟨a10, ch.val, c10⟩, false⟩]) from by rw [rows_append]; simp [rows], show l.length + 1 = (l ++ [(⟨ch.key, ⟨a10, ch.val, c10⟩, false⟩ : ChV)]).length from by simp]
    refine CX.merge (A := valC l) (B := own 5 1 a10 ch.val.length c10 (cb ch.val)) (valC (l ++ [⟨ch.key, ⟨a10, ch.val, c10⟩, false⟩])) (fun k s u => valC_ok.2 fun q hq => by
      rcases List.mem_append.1 hq with h | h
      · exact valC_ok.1 s q h
      · rw [List.mem_singleton.1 h]; exact own_SlB u) ?_
    have hlm : (l ++ [(⟨ch.key, ⟨a10, ch.val, c10⟩, false⟩ : ChV)]).map ChV.m = m.take (i + 1) := by
      rw [List.map_append, ← hnx]
      have : ch = ⟨ch.key, ch.val, false⟩ := by cases ch; simp_all
      conv => rhs; rw [this]
      rfl
    generalize l ++ [(⟨ch.key, ⟨a10, ch.val, c10⟩, false⟩ : ChV)] = l' at *
    have hl' : l'.length ≤ m.length := by have := congrArg List.length hlm; simp at this; omega
    have hm' : MayC (l'.map ChV.m) := by rw [hlm]; exact mayC_take hm _
    refine wk ?_
    refine CX.callA (r8mayC_c l' (by omega) a3 c3) ?_ (hpre := by exact fun y hy => ⟨own_rdx (e := 68) (Pick.ok (show Pick (own 68 3 a3 l'.length c3 (rows ChV.cells l')) _ _ from by first | exact pickA | exact updA) hy) (one_ch l'), valC_ok.1 (Pick.ok (show Pick (valC l') _ _ from by first | exact pickA | exact updA) hy)⟩)
    rw [decide_eq_true hm']
    rintro _ _ ⟨rfl, rfl⟩
    refine wk ?_
    exact CQ.round (x := (i, l, a1, c1)) (i + 1, l', a3, c3) ⟨h1, hlm⟩ (by dsimp only; omega) ⟨eqI (by omega), rfl, eqI (by dsimp only; omega), rfl, rfl, trivial⟩ (by exact selA)
end Go.Proofs.YtlckhaodecdbbaaGreatDoor
