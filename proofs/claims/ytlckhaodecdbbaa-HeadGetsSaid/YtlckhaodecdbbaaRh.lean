/- Heads, the document's way (ref 06). -/
import Derived.Test.YtlckhaodecdbbaaRf
import Derived.Test.YtlckhaodecdbbaaL6n
set_option linter.unusedVariables false
set_option linter.unusedSimpArgs false
namespace Go.Proofs.Ytlckhaodecdbbaa
open Go.Cx
attribute [local irreducible] Go.Cx.CX Go.Cx.CC Go.Cx.CQ Go.Cx.PS Go.Cx.Ctr Go.Cx.CH
set_option maxRecDepth 10000
theorem r6may_c (h : HdM) : Ctr Try.prog 51 [.agg (hc h).toArray] [] (fun _ => True) (fun v M => v = .bool (decide h.may) ∧ M = []) := by
  refine Ctr.intro Try.func51 rfl Try.ntmps51 rfl fun x w hp => ?_
  repeat (first | refine CX.psA ?_ | refine CX.nil ?_ | refine CQ.thenN ?_ | refine CQ.thenR ?_ | refine CQ.thenX ?_ | refine CQ.blockN ?_ | refine CQ.blockR ?_ | refine CQ.blockX ?_ | refine CQ.blockYA ?_ | refine CC.seq ?_ | refine CC.block ?_ | refine CC.region ?_ | refine CC.skip ?_ | refine CC.ret ?_ | refine CC.exit ?_ | refine CC.condTA ?_ | refine CC.condFA ?_ | refine CC.condDTA ?_ | refine CC.condDFA ?_ | refine CX.storeA ?_ | refine CX.skipA ?_)
  (refine CX.boxA (vs := hc h) ?_; intro r)
  by_cases h1 : h.bank < 2
  · by_cases h2 : h.blocks ≤ 4096
    · by_cases h3 : h.batches ≤ h.blocks
      · repeat (first | refine CX.psA ?_ | refine CX.nil ?_ | refine CQ.thenN ?_ | refine CQ.thenR ?_ | refine CQ.thenX ?_ | refine CQ.blockN ?_ | refine CQ.blockR ?_ | refine CQ.blockX ?_ | refine CQ.blockYA ?_ | refine CC.seq ?_ | refine CC.block ?_ | refine CC.region ?_ | refine CC.skip ?_ | refine CC.ret ?_ | refine CC.exit ?_ | refine CC.condTA ?_ | refine CC.condFA ?_ | refine CC.condDTA ?_ | refine CC.condDFA ?_ | refine CX.storeA ?_ | refine CX.skipA ?_)
        ((apply CQ.end1; (· rfl); (· exact .tmp rfl)); (· exact ⟨by rw [decide_eq_true (show h.may from ⟨h1, h2, h3⟩)], rfl⟩); (· repeat (first | exact Sel.nil _ | (apply Sel.cons; (· repeat (first | exact .head _ | apply Pick.tail | apply Upd.tail))))))
      · repeat (first | refine CX.psA ?_ | refine CX.nil ?_ | refine CQ.thenN ?_ | refine CQ.thenR ?_ | refine CQ.thenX ?_ | refine CQ.blockN ?_ | refine CQ.blockR ?_ | refine CQ.blockX ?_ | refine CQ.blockYA ?_ | refine CC.seq ?_ | refine CC.block ?_ | refine CC.region ?_ | refine CC.skip ?_ | refine CC.ret ?_ | refine CC.exit ?_ | refine CC.condTA ?_ | refine CC.condFA ?_ | refine CC.condDTA ?_ | refine CC.condDFA ?_ | refine CX.storeA ?_ | refine CX.skipA ?_)
        ((apply CQ.end1; (· rfl); (· exact .tmp rfl)); (· exact ⟨by rw [decide_eq_false (show ¬ h.may from fun q => h3 q.2.2)], rfl⟩); (· repeat (first | exact Sel.nil _ | (apply Sel.cons; (· repeat (first | exact .head _ | apply Pick.tail | apply Upd.tail))))))
    · repeat (first | refine CX.psA ?_ | refine CX.nil ?_ | refine CQ.thenN ?_ | refine CQ.thenR ?_ | refine CQ.thenX ?_ | refine CQ.blockN ?_ | refine CQ.blockR ?_ | refine CQ.blockX ?_ | refine CQ.blockYA ?_ | refine CC.seq ?_ | refine CC.block ?_ | refine CC.region ?_ | refine CC.skip ?_ | refine CC.ret ?_ | refine CC.exit ?_ | refine CC.condTA ?_ | refine CC.condFA ?_ | refine CC.condDTA ?_ | refine CC.condDFA ?_ | refine CX.storeA ?_ | refine CX.skipA ?_)
      ((apply CQ.end1; (· rfl); (· exact .tmp rfl)); (· exact ⟨by rw [decide_eq_false (show ¬ h.may from fun q => h2 q.2.1)], rfl⟩); (· repeat (first | exact Sel.nil _ | (apply Sel.cons; (· repeat (first | exact .head _ | apply Pick.tail | apply Upd.tail))))))
  · repeat (first | refine CX.psA ?_ | refine CX.nil ?_ | refine CQ.thenN ?_ | refine CQ.thenR ?_ | refine CQ.thenX ?_ | refine CQ.blockN ?_ | refine CQ.blockR ?_ | refine CQ.blockX ?_ | refine CQ.blockYA ?_ | refine CC.seq ?_ | refine CC.block ?_ | refine CC.region ?_ | refine CC.skip ?_ | refine CC.ret ?_ | refine CC.exit ?_ | refine CC.condTA ?_ | refine CC.condFA ?_ | refine CC.condDTA ?_ | refine CC.condDFA ?_ | refine CX.storeA ?_ | refine CX.skipA ?_)
    ((apply CQ.end1; (· rfl); (· exact .tmp rfl)); (· exact ⟨by rw [decide_eq_false (show ¬ h.may from fun q => h1 q.1)], rfl⟩); (· repeat (first | exact Sel.nil _ | (apply Sel.cons; (· repeat (first | exact .head _ | apply Pick.tail | apply Upd.tail))))))
theorem r6number_c (n : Nat) : Ctr Try.prog 106 [.int .u64 (n : Int)] [] (fun _ => True) (fun v M => v = .bool (decide (1 ≤ n ∧ n ≤ 4611686018427387904)) ∧ M = []) := by
  refine Ctr.intro Try.func106 rfl Try.ntmps106 rfl fun x w hp => ?_
  by_cases h1 : 1 ≤ n
  · by_cases h2 : n ≤ 4611686018427387904
    · repeat (first | refine CX.psA ?_ | refine CX.nil ?_ | refine CQ.thenN ?_ | refine CQ.thenR ?_ | refine CQ.thenX ?_ | refine CQ.blockN ?_ | refine CQ.blockR ?_ | refine CQ.blockX ?_ | refine CQ.blockYA ?_ | refine CC.seq ?_ | refine CC.block ?_ | refine CC.region ?_ | refine CC.skip ?_ | refine CC.ret ?_ | refine CC.exit ?_ | refine CC.condTA ?_ | refine CC.condFA ?_ | refine CC.condDTA ?_ | refine CC.condDFA ?_ | refine CX.storeA ?_ | refine CX.skipA ?_)
      ((apply CQ.end1; (· rfl); (· exact .tmp rfl)); (· exact ⟨by rw [decide_eq_true ⟨h1, h2⟩], rfl⟩); (· repeat (first | exact Sel.nil _ | (apply Sel.cons; (· repeat (first | exact .head _ | apply Pick.tail | apply Upd.tail))))))
    · repeat (first | refine CX.psA ?_ | refine CX.nil ?_ | refine CQ.thenN ?_ | refine CQ.thenR ?_ | refine CQ.thenX ?_ | refine CQ.blockN ?_ | refine CQ.blockR ?_ | refine CQ.blockX ?_ | refine CQ.blockYA ?_ | refine CC.seq ?_ | refine CC.block ?_ | refine CC.region ?_ | refine CC.skip ?_ | refine CC.ret ?_ | refine CC.exit ?_ | refine CC.condTA ?_ | refine CC.condFA ?_ | refine CC.condDTA ?_ | refine CC.condDFA ?_ | refine CX.storeA ?_ | refine CX.skipA ?_)
      ((apply CQ.end1; (· rfl); (· exact .tmp rfl)); (· exact ⟨by rw [decide_eq_false (fun q => h2 q.2)], rfl⟩); (· repeat (first | exact Sel.nil _ | (apply Sel.cons; (· repeat (first | exact .head _ | apply Pick.tail | apply Upd.tail))))))
  · repeat (first | refine CX.psA ?_ | refine CX.nil ?_ | refine CQ.thenN ?_ | refine CQ.thenR ?_ | refine CQ.thenX ?_ | refine CQ.blockN ?_ | refine CQ.blockR ?_ | refine CQ.blockX ?_ | refine CQ.blockYA ?_ | refine CC.seq ?_ | refine CC.block ?_ | refine CC.region ?_ | refine CC.skip ?_ | refine CC.ret ?_ | refine CC.exit ?_ | refine CC.condTA ?_ | refine CC.condFA ?_ | refine CC.condDTA ?_ | refine CC.condDFA ?_ | refine CX.storeA ?_ | refine CX.skipA ?_)
    ((apply CQ.end1; (· rfl); (· exact .tmp rfl)); (· exact ⟨by rw [decide_eq_false (fun q => h1 q.1)], rfl⟩); (· repeat (first | exact Sel.nil _ | (apply Sel.cons; (· repeat (first | exact .head _ | apply Pick.tail | apply Upd.tail))))))
theorem r6put_c (n : Nat) (hn : n ≤ top) (h : HdM) (ok : h.ok) : Ctr Try.prog 49 [.int .u64 (n : Int), .agg (hc h).toArray] [] (fun _ => True) (fun v M => v = .tuple #[.agg (cb (putH n h).1).toArray, .int .i64 (putH n h).2] ∧ M = []) := by
  have o1 := ok.bank
  have o2 := ok.blocks
  have o3 := ok.batches
  refine Ctr.intro Try.func49 rfl Try.ntmps49 rfl fun x w hp => ?_
  repeat (first | refine CX.psA ?_ | refine CX.nil ?_ | refine CQ.thenN ?_ | refine CQ.thenR ?_ | refine CQ.thenX ?_ | refine CQ.blockN ?_ | refine CQ.blockR ?_ | refine CQ.blockX ?_ | refine CQ.blockYA ?_ | refine CC.seq ?_ | refine CC.block ?_ | refine CC.region ?_ | refine CC.skip ?_ | refine CC.ret ?_ | refine CC.exit ?_ | refine CC.condTA ?_ | refine CC.condFA ?_ | refine CC.condDTA ?_ | refine CC.condDFA ?_ | refine CX.storeA ?_ | refine CX.skipA ?_)
  (refine CX.boxA (vs := hc h) ?_; intro r)
  (refine CX.allocZ (cb zblk) ?_; intro s)
  repeat (first | refine CX.psA ?_ | refine CX.nil ?_ | refine CQ.thenN ?_ | refine CQ.thenR ?_ | refine CQ.thenX ?_ | refine CQ.blockN ?_ | refine CQ.blockR ?_ | refine CQ.blockX ?_ | refine CQ.blockYA ?_ | refine CC.seq ?_ | refine CC.block ?_ | refine CC.region ?_ | refine CC.skip ?_ | refine CC.ret ?_ | refine CC.exit ?_ | refine CC.condTA ?_ | refine CC.condFA ?_ | refine CC.condDTA ?_ | refine CC.condDFA ?_ | refine CX.storeA ?_ | refine CX.skipA ?_)
  by_cases h1 : 1 ≤ n ∧ n ≤ 4611686018427387904
  · (have cc := r6number_c n; simp only [decide_eq_true h1] at cc; refine CX.callA cc ?_; clear cc; rintro _ _ ⟨rfl, rfl⟩)
    by_cases h3 : h.may
    · have e : putH n h = (sealB n h.bytes, 0) := putH_eq h1.1 h1.2 h3
      have ep : putM n h.bytes = (sealB n h.bytes, 0) := by unfold putM; rw [if_neg (by omega), if_neg (by rw [bytes_len]; omega)]
      have wB : WB (sealB n h.bytes) := sealB_WB (by rw [bytes_len]; omega)
      have hbk : ((UInt8.ofNat h.bank).toNat : Int) = (h.bank : Int) := by simp; omega
      rw [e]
      repeat (first | refine CX.psA ?_ | refine CX.nil ?_ | refine CQ.thenN ?_ | refine CQ.thenR ?_ | refine CQ.thenX ?_ | refine CQ.blockN ?_ | refine CQ.blockR ?_ | refine CQ.blockX ?_ | refine CQ.blockYA ?_ | refine CC.seq ?_ | refine CC.block ?_ | refine CC.region ?_ | refine CC.skip ?_ | refine CC.ret ?_ | refine CC.exit ?_ | refine CC.condTA ?_ | refine CC.condFA ?_ | refine CC.condDTA ?_ | refine CC.condDFA ?_ | refine CX.storeA ?_ | refine CX.skipA ?_)
      ((apply CX.ps; (· apply PS.loadG (vs := hc h); (· rfl); (· rfl); (· exact CellsAt.all (by repeat (first | exact .head _ | apply Pick.tail | apply Upd.tail))); (· rfl))))
      (have cc := r6may_c h; simp only [decide_eq_true h3] at cc; refine CX.callA cc ?_; clear cc; rintro _ _ ⟨rfl, rfl⟩)
      repeat (first | refine CX.psA ?_ | refine CX.nil ?_ | refine CQ.thenN ?_ | refine CQ.thenR ?_ | refine CQ.thenX ?_ | refine CQ.blockN ?_ | refine CQ.blockR ?_ | refine CQ.blockX ?_ | refine CQ.blockYA ?_ | refine CC.seq ?_ | refine CC.block ?_ | refine CC.region ?_ | refine CC.skip ?_ | refine CC.ret ?_ | refine CC.exit ?_ | refine CC.condTA ?_ | refine CC.condFA ?_ | refine CC.condDTA ?_ | refine CC.condDFA ?_ | refine CX.storeA ?_ | refine CX.skipA ?_)
      refine CX.callA (rput_c h.blocks 4 (by omega) (by omega)) ?_
      rintro _ _ ⟨b1, c1, rfl, rfl⟩
      repeat (first | refine CX.psA ?_ | refine CX.nil ?_ | refine CQ.thenN ?_ | refine CQ.thenR ?_ | refine CQ.thenX ?_ | refine CQ.blockN ?_ | refine CQ.blockR ?_ | refine CQ.blockX ?_ | refine CQ.blockYA ?_ | refine CC.seq ?_ | refine CC.block ?_ | refine CC.region ?_ | refine CC.skip ?_ | refine CC.ret ?_ | refine CC.exit ?_ | refine CC.condTA ?_ | refine CC.condFA ?_ | refine CC.condDTA ?_ | refine CC.condDFA ?_ | refine CX.storeA ?_ | refine CX.skipA ?_)
      refine CX.callA (rput_c h.batches 4 (by omega) (by omega)) ?_
      rintro _ _ ⟨b2, c2, rfl, rfl⟩
      repeat (first | refine CX.psA ?_ | refine CX.nil ?_ | refine CQ.thenN ?_ | refine CQ.thenR ?_ | refine CQ.thenX ?_ | refine CQ.blockN ?_ | refine CQ.blockR ?_ | refine CQ.blockX ?_ | refine CQ.blockYA ?_ | refine CC.seq ?_ | refine CC.block ?_ | refine CC.region ?_ | refine CC.skip ?_ | refine CC.ret ?_ | refine CC.exit ?_ | refine CC.condTA ?_ | refine CC.condFA ?_ | refine CC.condDTA ?_ | refine CC.condDFA ?_ | refine CX.storeA ?_ | refine CX.skipA ?_)
      apply CX.buildSl (vs := [(0, .int .u8 ((UInt8.ofNat h.bank).toNat : Int))]) (out := cb (le 1 h.bank))
      · rfl
      · simp only [evp]; rw [hbk]; rfl
      · decide
      · simp [fillL, Value.cells, setL, cb, ib, le]
      intro bq
      refine CX.ownBk (m := 1) (sz := 1) (by repeat (first | exact .head _ | apply Pick.tail | apply Upd.tail)) (by simp) (by decide) ?_
      repeat (first | refine CX.psA ?_ | refine CX.nil ?_ | refine CQ.thenN ?_ | refine CQ.thenR ?_ | refine CQ.thenX ?_ | refine CQ.blockN ?_ | refine CQ.blockR ?_ | refine CQ.blockX ?_ | refine CQ.blockYA ?_ | refine CC.seq ?_ | refine CC.block ?_ | refine CC.region ?_ | refine CC.skip ?_ | refine CC.ret ?_ | refine CC.exit ?_ | refine CC.condTA ?_ | refine CC.condFA ?_ | refine CC.condDTA ?_ | refine CC.condDFA ?_ | refine CX.storeA ?_ | refine CX.skipA ?_)
      apply CX.append (m := 4) (news := cb (le 4 h.blocks))
      · rfl
      · rfl
      · rfl
      · repeat (first | exact .head _ | apply Pick.tail | apply Upd.tail)
      · exact RdS.own (e := 5) (by repeat (first | exact .head _ | apply Pick.tail | apply Upd.tail)) (one_cb _) rfl
      · simp
      · intro hh; cases hh
      intro a3 c3
      rw [← cb_append]
      repeat (first | refine CX.psA ?_ | refine CX.nil ?_ | refine CQ.thenN ?_ | refine CQ.thenR ?_ | refine CQ.thenX ?_ | refine CQ.blockN ?_ | refine CQ.blockR ?_ | refine CQ.blockX ?_ | refine CQ.blockYA ?_ | refine CC.seq ?_ | refine CC.block ?_ | refine CC.region ?_ | refine CC.skip ?_ | refine CC.ret ?_ | refine CC.exit ?_ | refine CC.condTA ?_ | refine CC.condFA ?_ | refine CC.condDTA ?_ | refine CC.condDFA ?_ | refine CX.storeA ?_ | refine CX.skipA ?_)
      apply CX.append (m := 4) (news := cb (le 4 h.batches))
      · rfl
      · rfl
      · rfl
      · repeat (first | exact .head _ | apply Pick.tail | apply Upd.tail)
      · exact RdS.own (e := 5) (by repeat (first | exact .head _ | apply Pick.tail | apply Upd.tail)) (one_cb _) rfl
      · simp
      · intro hh; cases hh
      intro a4 c4
      rw [← cb_append, List.append_assoc, show le 1 h.bank ++ (le 4 h.blocks ++ le 4 h.batches) = h.bytes from rfl]
      repeat (first | refine CX.psA ?_ | refine CX.nil ?_ | refine CQ.thenN ?_ | refine CQ.thenR ?_ | refine CQ.thenX ?_ | refine CQ.blockN ?_ | refine CQ.blockR ?_ | refine CQ.blockX ?_ | refine CQ.blockYA ?_ | refine CC.seq ?_ | refine CC.block ?_ | refine CC.region ?_ | refine CC.skip ?_ | refine CC.ret ?_ | refine CC.exit ?_ | refine CC.condTA ?_ | refine CC.condFA ?_ | refine CC.condDTA ?_ | refine CC.condDFA ?_ | refine CX.storeA ?_ | refine CX.skipA ?_)
      have cc := r5put_c n hn h.bytes (by rw [bytes_len]; omega) a4 c4
      rw [ep, bytes_len] at cc
      refine CX.callA (cc) ?_ (hpre := by exact rdx_own (e := 5) (by repeat (first | exact .head _ | apply Pick.tail | apply Upd.tail)) (by rw [bytes_len]))
      clear cc
      rintro _ _ ⟨rfl, rfl⟩
      repeat (first | refine CX.psA ?_ | refine CX.nil ?_ | refine CQ.thenN ?_ | refine CQ.thenR ?_ | refine CQ.thenX ?_ | refine CQ.blockN ?_ | refine CQ.blockR ?_ | refine CQ.blockX ?_ | refine CQ.blockYA ?_ | refine CC.seq ?_ | refine CC.block ?_ | refine CC.region ?_ | refine CC.skip ?_ | refine CC.ret ?_ | refine CC.exit ?_ | refine CC.condTA ?_ | refine CC.condFA ?_ | refine CC.condDTA ?_ | refine CC.condDFA ?_ | refine CX.storeA ?_ | refine CX.skipA ?_)
      (apply CX.storeAll; (· rfl); (· rfl); (· rfl); (· repeat (first | exact .head _ | apply Pick.tail | apply Upd.tail)); (· exact wB.len); (· exact WB_z.len); (· exact one_cb _))
      repeat (first | refine CX.psA ?_ | refine CX.nil ?_ | refine CQ.thenN ?_ | refine CQ.thenR ?_ | refine CQ.thenX ?_ | refine CQ.blockN ?_ | refine CQ.blockR ?_ | refine CQ.blockX ?_ | refine CQ.blockYA ?_ | refine CC.seq ?_ | refine CC.block ?_ | refine CC.region ?_ | refine CC.skip ?_ | refine CC.ret ?_ | refine CC.exit ?_ | refine CC.condTA ?_ | refine CC.condFA ?_ | refine CC.condDTA ?_ | refine CC.condDFA ?_ | refine CX.storeA ?_ | refine CX.skipA ?_)
      ((apply CQ.end2; (· rfl); (· exact .cells inferInstance rfl (CellsAt.all (by repeat (first | exact .head _ | apply Pick.tail | apply Upd.tail))) (wB.len)); (· exact .tmp rfl)); (· exact ⟨rfl, rfl⟩); (· repeat (first | exact Sel.nil _ | (apply Sel.cons; (· repeat (first | exact .head _ | apply Pick.tail | apply Upd.tail))))))
    · have e : putH n h = (zblk, 2) := by unfold putH; rw [if_pos (.inr (.inr h3))]
      rw [e]
      repeat (first | refine CX.psA ?_ | refine CX.nil ?_ | refine CQ.thenN ?_ | refine CQ.thenR ?_ | refine CQ.thenX ?_ | refine CQ.blockN ?_ | refine CQ.blockR ?_ | refine CQ.blockX ?_ | refine CQ.blockYA ?_ | refine CC.seq ?_ | refine CC.block ?_ | refine CC.region ?_ | refine CC.skip ?_ | refine CC.ret ?_ | refine CC.exit ?_ | refine CC.condTA ?_ | refine CC.condFA ?_ | refine CC.condDTA ?_ | refine CC.condDFA ?_ | refine CX.storeA ?_ | refine CX.skipA ?_)
      ((apply CX.ps; (· apply PS.loadG (vs := hc h); (· rfl); (· rfl); (· exact CellsAt.all (by repeat (first | exact .head _ | apply Pick.tail | apply Upd.tail))); (· rfl))))
      (have cc := r6may_c h; simp only [decide_eq_false h3] at cc; refine CX.callA cc ?_; clear cc; rintro _ _ ⟨rfl, rfl⟩)
      repeat (first | refine CX.psA ?_ | refine CX.nil ?_ | refine CQ.thenN ?_ | refine CQ.thenR ?_ | refine CQ.thenX ?_ | refine CQ.blockN ?_ | refine CQ.blockR ?_ | refine CQ.blockX ?_ | refine CQ.blockYA ?_ | refine CC.seq ?_ | refine CC.block ?_ | refine CC.region ?_ | refine CC.skip ?_ | refine CC.ret ?_ | refine CC.exit ?_ | refine CC.condTA ?_ | refine CC.condFA ?_ | refine CC.condDTA ?_ | refine CC.condDFA ?_ | refine CX.storeA ?_ | refine CX.skipA ?_)
      (apply CX.ps; (· apply PS.buildZ (vs := cb zblk); (· rfl); (· simp [cb_z, Value.cells])))
      (apply CX.storeAll; (· rfl); (· rfl); (· rfl); (· repeat (first | exact .head _ | apply Pick.tail | apply Upd.tail)); (· exact WB_z.len); (· exact WB_z.len); (· exact one_cb _))
      repeat (first | refine CX.psA ?_ | refine CX.nil ?_ | refine CQ.thenN ?_ | refine CQ.thenR ?_ | refine CQ.thenX ?_ | refine CQ.blockN ?_ | refine CQ.blockR ?_ | refine CQ.blockX ?_ | refine CQ.blockYA ?_ | refine CC.seq ?_ | refine CC.block ?_ | refine CC.region ?_ | refine CC.skip ?_ | refine CC.ret ?_ | refine CC.exit ?_ | refine CC.condTA ?_ | refine CC.condFA ?_ | refine CC.condDTA ?_ | refine CC.condDFA ?_ | refine CX.storeA ?_ | refine CX.skipA ?_)
      ((apply CQ.end2; (· rfl); (· exact .cells inferInstance rfl (CellsAt.all (by repeat (first | exact .head _ | apply Pick.tail | apply Upd.tail))) (WB_z.len)); (· exact .tmp rfl)); (· exact ⟨rfl, rfl⟩); (· repeat (first | exact Sel.nil _ | (apply Sel.cons; (· repeat (first | exact .head _ | apply Pick.tail | apply Upd.tail))))))
  · have e : putH n h = (zblk, 2) := by
      unfold putH; rw [if_pos]
      by_cases h2 : n = 0
      · exact .inl h2
      · exact .inr (.inl (by simp only [most]; omega))
    rw [e]
    (have cc := r6number_c n; simp only [decide_eq_false h1] at cc; refine CX.callA cc ?_; clear cc; rintro _ _ ⟨rfl, rfl⟩)
    repeat (first | refine CX.psA ?_ | refine CX.nil ?_ | refine CQ.thenN ?_ | refine CQ.thenR ?_ | refine CQ.thenX ?_ | refine CQ.blockN ?_ | refine CQ.blockR ?_ | refine CQ.blockX ?_ | refine CQ.blockYA ?_ | refine CC.seq ?_ | refine CC.block ?_ | refine CC.region ?_ | refine CC.skip ?_ | refine CC.ret ?_ | refine CC.exit ?_ | refine CC.condTA ?_ | refine CC.condFA ?_ | refine CC.condDTA ?_ | refine CC.condDFA ?_ | refine CX.storeA ?_ | refine CX.skipA ?_)
    (apply CX.ps; (· apply PS.buildZ (vs := cb zblk); (· rfl); (· simp [cb_z, Value.cells])))
    (apply CX.storeAll; (· rfl); (· rfl); (· rfl); (· repeat (first | exact .head _ | apply Pick.tail | apply Upd.tail)); (· exact WB_z.len); (· exact WB_z.len); (· exact one_cb _))
    repeat (first | refine CX.psA ?_ | refine CX.nil ?_ | refine CQ.thenN ?_ | refine CQ.thenR ?_ | refine CQ.thenX ?_ | refine CQ.blockN ?_ | refine CQ.blockR ?_ | refine CQ.blockX ?_ | refine CQ.blockYA ?_ | refine CC.seq ?_ | refine CC.block ?_ | refine CC.region ?_ | refine CC.skip ?_ | refine CC.ret ?_ | refine CC.exit ?_ | refine CC.condTA ?_ | refine CC.condFA ?_ | refine CC.condDTA ?_ | refine CC.condDFA ?_ | refine CX.storeA ?_ | refine CX.skipA ?_)
    ((apply CQ.end2; (· rfl); (· exact .cells inferInstance rfl (CellsAt.all (by repeat (first | exact .head _ | apply Pick.tail | apply Upd.tail))) (WB_z.len)); (· exact .tmp rfl)); (· exact ⟨rfl, rfl⟩); (· repeat (first | exact Sel.nil _ | (apply Sel.cons; (· repeat (first | exact .head _ | apply Pick.tail | apply Upd.tail))))))
theorem r6get_c (B : Blk) (hB : WB B) : Ctr Try.prog 54 [.agg (cb B).toArray] [] (fun _ => True) (GotH B) := by
  have hB' : B.length = 128 := hB
  have hH := getH_eq hB
  refine Ctr.intro Try.func54 rfl Try.ntmps54 rfl fun x w hp => ?_
  repeat (first | refine CX.psA ?_ | refine CX.nil ?_ | refine CQ.thenN ?_ | refine CQ.thenR ?_ | refine CQ.thenX ?_ | refine CQ.blockN ?_ | refine CQ.blockR ?_ | refine CQ.blockX ?_ | refine CQ.blockYA ?_ | refine CC.seq ?_ | refine CC.block ?_ | refine CC.region ?_ | refine CC.skip ?_ | refine CC.ret ?_ | refine CC.exit ?_ | refine CC.condTA ?_ | refine CC.condFA ?_ | refine CC.condDTA ?_ | refine CC.condDFA ?_ | refine CX.storeA ?_ | refine CX.skipA ?_)
  (refine CX.boxA ?_; intro r)
  repeat (first | refine CX.psA ?_ | refine CX.nil ?_ | refine CQ.thenN ?_ | refine CQ.thenR ?_ | refine CQ.thenX ?_ | refine CQ.blockN ?_ | refine CQ.blockR ?_ | refine CQ.blockX ?_ | refine CQ.blockYA ?_ | refine CC.seq ?_ | refine CC.block ?_ | refine CC.region ?_ | refine CC.skip ?_ | refine CC.ret ?_ | refine CC.exit ?_ | refine CC.condTA ?_ | refine CC.condFA ?_ | refine CC.condDTA ?_ | refine CC.condDFA ?_ | refine CX.storeA ?_ | refine CX.skipA ?_)
  refine CX.allocZ (hc HdM.z) ?_ (hv := rfl)
  intro rh
  repeat (first | refine CX.psA ?_ | refine CX.nil ?_ | refine CQ.thenN ?_ | refine CQ.thenR ?_ | refine CQ.thenX ?_ | refine CQ.blockN ?_ | refine CQ.blockR ?_ | refine CQ.blockX ?_ | refine CQ.blockYA ?_ | refine CC.seq ?_ | refine CC.block ?_ | refine CC.region ?_ | refine CC.skip ?_ | refine CC.ret ?_ | refine CC.exit ?_ | refine CC.condTA ?_ | refine CC.condFA ?_ | refine CC.condDTA ?_ | refine CC.condDFA ?_ | refine CX.storeA ?_ | refine CX.skipA ?_)
  ((apply CX.ps; (· apply PS.loadG (vs := cb (B)); (· rfl); (· rfl); (· exact CellsAt.all (by repeat (first | exact .head _ | apply Pick.tail | apply Upd.tail))); (· exact hB.len))))
  refine CX.callA (r5get_c B hB) ?_
  rintro _ _ ⟨a, c, rfl, rfl⟩
  by_cases he : (getM B).2.2 = 0
  · have hv := get_valid he
    have g := get_ok hv
    have hl : ((B.drop 8).take 108).length = 108 := by simp; omega
    have eb : (getM B).2.1 = (B.drop 8).take 108 := by rw [g]
    have hn : (getM B).1 < 18446744073709551616 := getM_lt B
    rw [if_neg (by simp [he]), eb] at hH
    rw [eb, hl, he]
    generalize (B.drop 8).take 108 = D at hl hH
    generalize (getM B).1 = n at hn hH
    have ok := ofBody_ok D
    have wP := putH_WB n (ofBody D)
    refine CX.fact (own_fact (e := 5) (by repeat (first | exact .head _ | apply Pick.tail | apply Upd.tail)) (by omega)) ?_
    rintro ⟨hc1, q, rfl⟩
    have b1 := ofLe_tk D 1
    have b2 := ofLe_tk (D.drop 1) 4
    have b3 := ofLe_tk (D.drop 5) 4
    have e0 : ofLe (D.take 1) = (D[0]'(by omega)).toNat := by
      rw [List.take_succ_eq_append_getElem (by omega)]; simp [ofLe]
    have g1 := getN_at (B := D) (p := 1) (k := 4) (by omega) (by omega)
    have g2 := getN_at (B := D) (p := 5) (k := 4) (by omega) (by omega)
    repeat (first | refine CX.psA ?_ | refine CX.nil ?_ | refine CQ.thenN ?_ | refine CQ.thenR ?_ | refine CQ.thenX ?_ | refine CQ.blockN ?_ | refine CQ.blockR ?_ | refine CQ.blockX ?_ | refine CQ.blockYA ?_ | refine CC.seq ?_ | refine CC.block ?_ | refine CC.region ?_ | refine CC.skip ?_ | refine CC.ret ?_ | refine CC.exit ?_ | refine CC.condTA ?_ | refine CC.condFA ?_ | refine CC.condDTA ?_ | refine CC.condDFA ?_ | refine CX.storeA ?_ | refine CX.skipA ?_)
    have cc := rget_c D (some ⟨q, 0, none⟩) c 1 4 (by omega) (by omega) (by omega)
    rw [hl, show getN D 1 4 = _ from g1] at cc
    refine CX.callA (cc) ?_ (hpre := by exact rdx_own (e := 5) (by repeat (first | exact .head _ | apply Pick.tail | apply Upd.tail)) hl.symm)
    clear cc
    rintro _ _ ⟨rfl, rfl⟩
    repeat (first | refine CX.psA ?_ | refine CX.nil ?_ | refine CQ.thenN ?_ | refine CQ.thenR ?_ | refine CQ.thenX ?_ | refine CQ.blockN ?_ | refine CQ.blockR ?_ | refine CQ.blockX ?_ | refine CQ.blockYA ?_ | refine CC.seq ?_ | refine CC.block ?_ | refine CC.region ?_ | refine CC.skip ?_ | refine CC.ret ?_ | refine CC.exit ?_ | refine CC.condTA ?_ | refine CC.condFA ?_ | refine CC.condDTA ?_ | refine CC.condDFA ?_ | refine CX.storeA ?_ | refine CX.skipA ?_)
    have cc := rget_c D (some ⟨q, 0, none⟩) c 5 4 (by omega) (by omega) (by omega)
    rw [hl, show getN D 5 4 = _ from g2] at cc
    refine CX.callA (cc) ?_ (hpre := by exact rdx_own (e := 5) (by repeat (first | exact .head _ | apply Pick.tail | apply Upd.tail)) hl.symm)
    clear cc
    rintro _ _ ⟨rfl, rfl⟩
    repeat (first | refine CX.psA ?_ | refine CX.nil ?_ | refine CQ.thenN ?_ | refine CQ.thenR ?_ | refine CQ.thenX ?_ | refine CQ.blockN ?_ | refine CQ.blockR ?_ | refine CQ.blockX ?_ | refine CQ.blockYA ?_ | refine CC.seq ?_ | refine CC.block ?_ | refine CC.region ?_ | refine CC.skip ?_ | refine CC.ret ?_ | refine CC.exit ?_ | refine CC.condTA ?_ | refine CC.condFA ?_ | refine CC.condDTA ?_ | refine CC.condDFA ?_ | refine CX.storeA ?_ | refine CX.skipA ?_)
    (refine CX.index0 (0) ?_ ?_; (· omega))
    (refine CX.loadA _ (CellAt.ownB (j := 0) (by repeat (first | exact .head _ | apply Pick.tail | apply Upd.tail)) (by omega)) ?_)
    rw [← e0]
    repeat (first | refine CX.psA ?_ | refine CX.nil ?_ | refine CQ.thenN ?_ | refine CQ.thenR ?_ | refine CQ.thenX ?_ | refine CQ.blockN ?_ | refine CQ.blockR ?_ | refine CQ.blockX ?_ | refine CQ.blockYA ?_ | refine CC.seq ?_ | refine CC.block ?_ | refine CC.region ?_ | refine CC.skip ?_ | refine CC.ret ?_ | refine CC.exit ?_ | refine CC.condTA ?_ | refine CC.condFA ?_ | refine CC.condDTA ?_ | refine CC.condDFA ?_ | refine CX.storeA ?_ | refine CX.skipA ?_)
    (apply CX.ps; (· apply PS.build (out := hc (ofBody D)); (· rfl); (· rfl); (· rfl)))
    refine CX.allocZ (hc HdM.z) ?_ (hv := rfl)
    intro rk
    (refine CX.storeB (vs := hc (ofBody D)) ?_ ?_ ?_ ?_; (· rfl); (· rfl); (· exact one_all rfl))
    repeat (first | refine CX.psA ?_ | refine CX.nil ?_ | refine CQ.thenN ?_ | refine CQ.thenR ?_ | refine CQ.thenX ?_ | refine CQ.blockN ?_ | refine CQ.blockR ?_ | refine CQ.blockX ?_ | refine CQ.blockYA ?_ | refine CC.seq ?_ | refine CC.block ?_ | refine CC.region ?_ | refine CC.skip ?_ | refine CC.ret ?_ | refine CC.exit ?_ | refine CC.condTA ?_ | refine CC.condFA ?_ | refine CC.condDTA ?_ | refine CC.condDFA ?_ | refine CX.storeA ?_ | refine CX.skipA ?_)
    ((apply CX.ps; (· apply PS.loadG (vs := hc (ofBody D)); (· rfl); (· rfl); (· exact CellsAt.all (by repeat (first | exact .head _ | apply Pick.tail | apply Upd.tail))); (· rfl))))
    refine CX.callA (r6put_c n (by simp only [top]; omega) (ofBody D) ok) ?_
    rintro _ _ ⟨rfl, rfl⟩
    generalize (putH n (ofBody D)).1 = P at *
    generalize (putH n (ofBody D)).2 = ep at *
    repeat (first | refine CX.psA ?_ | refine CX.nil ?_ | refine CQ.thenN ?_ | refine CQ.thenR ?_ | refine CQ.thenX ?_ | refine CQ.blockN ?_ | refine CQ.blockR ?_ | refine CQ.blockX ?_ | refine CQ.blockYA ?_ | refine CC.seq ?_ | refine CC.block ?_ | refine CC.region ?_ | refine CC.skip ?_ | refine CC.ret ?_ | refine CC.exit ?_ | refine CC.condTA ?_ | refine CC.condFA ?_ | refine CC.condDTA ?_ | refine CC.condDFA ?_ | refine CX.storeA ?_ | refine CX.skipA ?_)
    (refine CX.allocZ (cb zblk) ?_; intro rp)
    repeat (first | refine CX.psA ?_ | refine CX.nil ?_ | refine CQ.thenN ?_ | refine CQ.thenR ?_ | refine CQ.thenX ?_ | refine CQ.blockN ?_ | refine CQ.blockR ?_ | refine CQ.blockX ?_ | refine CQ.blockYA ?_ | refine CC.seq ?_ | refine CC.block ?_ | refine CC.region ?_ | refine CC.skip ?_ | refine CC.ret ?_ | refine CC.exit ?_ | refine CC.condTA ?_ | refine CC.condFA ?_ | refine CC.condDTA ?_ | refine CC.condDFA ?_ | refine CX.storeA ?_ | refine CX.skipA ?_)
    (apply CX.storeAll; (· rfl); (· rfl); (· rfl); (· repeat (first | exact .head _ | apply Pick.tail | apply Upd.tail)); (· exact wP.len); (· exact WB_z.len); (· exact one_cb _))
    by_cases h1 : ep = 0
    · by_cases h2 : P = B
      · have e : getH B = (n, ofBody D, 0) := by rw [hH, if_neg]; rintro (k | k) <;> first | exact k h1 | exact k h2
        repeat (first | refine CX.psA ?_ | refine CX.nil ?_ | refine CQ.thenN ?_ | refine CQ.thenR ?_ | refine CQ.thenX ?_ | refine CQ.blockN ?_ | refine CQ.blockR ?_ | refine CQ.blockX ?_ | refine CQ.blockYA ?_ | refine CC.seq ?_ | refine CC.block ?_ | refine CC.region ?_ | refine CC.skip ?_ | refine CC.ret ?_ | refine CC.exit ?_ | refine CC.condTA ?_ | refine CC.condFA ?_ | refine CC.condDTA ?_ | refine CC.condDFA ?_ | refine CX.storeA ?_ | refine CX.skipA ?_)
        ((apply CX.ps; (· apply PS.loadG (vs := cb (P)); (· rfl); (· rfl); (· exact CellsAt.all (by repeat (first | exact .head _ | apply Pick.tail | apply Upd.tail))); (· exact wP.len))))
        ((apply CX.ps; (· apply PS.loadG (vs := cb (B)); (· rfl); (· rfl); (· exact CellsAt.all (by repeat (first | exact .head _ | apply Pick.tail | apply Upd.tail))); (· exact hB.len))))
        (apply CX.ps; (· refine PS.toF (PS.neqB (a := P) (b := B) ?_ ?_ ?_ ?_ ?_) ?_; (· rfl); (· rfl); (· rfl); (· exact wP); (· exact hB); (· simp [h2])))
        repeat (first | refine CX.psA ?_ | refine CX.nil ?_ | refine CQ.thenN ?_ | refine CQ.thenR ?_ | refine CQ.thenX ?_ | refine CQ.blockN ?_ | refine CQ.blockR ?_ | refine CQ.blockX ?_ | refine CQ.blockYA ?_ | refine CC.seq ?_ | refine CC.block ?_ | refine CC.region ?_ | refine CC.skip ?_ | refine CC.ret ?_ | refine CC.exit ?_ | refine CC.condTA ?_ | refine CC.condFA ?_ | refine CC.condDTA ?_ | refine CC.condDFA ?_ | refine CX.storeA ?_ | refine CX.skipA ?_)
        refine CC.draw [(0, 0), (1, 1), (2, 0), (3, 3), (4, 0)] mixed rfl (by kernel_rfl) (by kernel_rfl) [bk rk 68 (hc (ofBody D))] ?_
        repeat (first | refine CH.pureA ?_ | refine CH.readA ?_ | refine CH.skA ?_ | refine CH.skCA ?_ | refine CH.nil ?_)
        (apply CH.read; (· rfl); (· apply PS.loadG (vs := hc (ofBody D)); (· rfl); (· rfl); (· exact CellsAt.all (by repeat (first | exact .head _ | apply Pick.tail | apply Upd.tail))); (· rfl)); (· repeat (first | exact Sel.nil _ | (apply Sel.cons; (· repeat (first | exact .head _ | apply Pick.tail | apply Upd.tail))))))
        repeat (first | refine CH.pureA ?_ | refine CH.readA ?_ | refine CH.skA ?_ | refine CH.skCA ?_ | refine CH.nil ?_)
        refine CH.tail rfl rfl fun K hK => ?_
        (refine CX.storeB (vs := hc (ofBody D)) ?_ ?_ ?_ ?_; (· rfl); (· rfl); (· exact one_all rfl))
        (refine CX.nil ?_; refine CQ.thenK ?_; apply hK; clear hK K)
        repeat (first | refine CH.pureA ?_ | refine CH.readA ?_ | refine CH.skA ?_ | refine CH.skCA ?_ | refine CH.nil ?_)
        repeat (first | refine CX.psA ?_ | refine CX.nil ?_ | refine CQ.thenN ?_ | refine CQ.thenR ?_ | refine CQ.thenX ?_ | refine CQ.blockN ?_ | refine CQ.blockR ?_ | refine CQ.blockX ?_ | refine CQ.blockYA ?_ | refine CC.seq ?_ | refine CC.block ?_ | refine CC.region ?_ | refine CC.skip ?_ | refine CC.ret ?_ | refine CC.exit ?_ | refine CC.condTA ?_ | refine CC.condFA ?_ | refine CC.condDTA ?_ | refine CC.condDFA ?_ | refine CX.storeA ?_ | refine CX.skipA ?_)
        (apply CQ.end3; (· rfl); (· exact .tmp rfl); (· exact .cells inferInstance rfl (CellsAt.all (by repeat (first | exact .head _ | apply Pick.tail | apply Upd.tail))) rfl); (· exact .tmp rfl))
        · exact ⟨by rw [e] <;> rfl, rfl⟩
        · repeat (first | exact Sel.nil _ | (apply Sel.cons; (· repeat (first | exact .head _ | apply Pick.tail | apply Upd.tail))))
      · have e : getH B = (0, HdM.z, 5) := by rw [hH, if_pos (.inr h2)]
        repeat (first | refine CX.psA ?_ | refine CX.nil ?_ | refine CQ.thenN ?_ | refine CQ.thenR ?_ | refine CQ.thenX ?_ | refine CQ.blockN ?_ | refine CQ.blockR ?_ | refine CQ.blockX ?_ | refine CQ.blockYA ?_ | refine CC.seq ?_ | refine CC.block ?_ | refine CC.region ?_ | refine CC.skip ?_ | refine CC.ret ?_ | refine CC.exit ?_ | refine CC.condTA ?_ | refine CC.condFA ?_ | refine CC.condDTA ?_ | refine CC.condDFA ?_ | refine CX.storeA ?_ | refine CX.skipA ?_)
        ((apply CX.ps; (· apply PS.loadG (vs := cb (P)); (· rfl); (· rfl); (· exact CellsAt.all (by repeat (first | exact .head _ | apply Pick.tail | apply Upd.tail))); (· exact wP.len))))
        ((apply CX.ps; (· apply PS.loadG (vs := cb (B)); (· rfl); (· rfl); (· exact CellsAt.all (by repeat (first | exact .head _ | apply Pick.tail | apply Upd.tail))); (· exact hB.len))))
        (apply CX.ps; (· refine PS.toT (PS.neqB (a := P) (b := B) ?_ ?_ ?_ ?_ ?_) ?_; (· rfl); (· rfl); (· rfl); (· exact wP); (· exact hB); (· exact h2)))
        repeat (first | refine CX.psA ?_ | refine CX.nil ?_ | refine CQ.thenN ?_ | refine CQ.thenR ?_ | refine CQ.thenX ?_ | refine CQ.blockN ?_ | refine CQ.blockR ?_ | refine CQ.blockX ?_ | refine CQ.blockYA ?_ | refine CC.seq ?_ | refine CC.block ?_ | refine CC.region ?_ | refine CC.skip ?_ | refine CC.ret ?_ | refine CC.exit ?_ | refine CC.condTA ?_ | refine CC.condFA ?_ | refine CC.condDTA ?_ | refine CC.condDFA ?_ | refine CX.storeA ?_ | refine CX.skipA ?_)
        (apply CX.ps; (· apply PS.build (vs := []) (out := hc HdM.z); (· rfl); (· rfl); (· rfl)))
        repeat (first | refine CX.psA ?_ | refine CX.nil ?_ | refine CQ.thenN ?_ | refine CQ.thenR ?_ | refine CQ.thenX ?_ | refine CQ.blockN ?_ | refine CQ.blockR ?_ | refine CQ.blockX ?_ | refine CQ.blockYA ?_ | refine CC.seq ?_ | refine CC.block ?_ | refine CC.region ?_ | refine CC.skip ?_ | refine CC.ret ?_ | refine CC.exit ?_ | refine CC.condTA ?_ | refine CC.condFA ?_ | refine CC.condDTA ?_ | refine CC.condDFA ?_ | refine CX.storeA ?_ | refine CX.skipA ?_)
        (refine CX.storeB (vs := hc HdM.z) ?_ ?_ ?_ ?_; (· rfl); (· rfl); (· exact one_all rfl))
        repeat (first | refine CX.psA ?_ | refine CX.nil ?_ | refine CQ.thenN ?_ | refine CQ.thenR ?_ | refine CQ.thenX ?_ | refine CQ.blockN ?_ | refine CQ.blockR ?_ | refine CQ.blockX ?_ | refine CQ.blockYA ?_ | refine CC.seq ?_ | refine CC.block ?_ | refine CC.region ?_ | refine CC.skip ?_ | refine CC.ret ?_ | refine CC.exit ?_ | refine CC.condTA ?_ | refine CC.condFA ?_ | refine CC.condDTA ?_ | refine CC.condDFA ?_ | refine CX.storeA ?_ | refine CX.skipA ?_)
        (apply CQ.end3; (· rfl); (· exact .tmp rfl); (· exact .cells inferInstance rfl (CellsAt.all (by repeat (first | exact .head _ | apply Pick.tail | apply Upd.tail))) rfl); (· exact .tmp rfl))
        · exact ⟨by rw [e] <;> rfl, rfl⟩
        · repeat (first | exact Sel.nil _ | (apply Sel.cons; (· repeat (first | exact .head _ | apply Pick.tail | apply Upd.tail))))
    · have e : getH B = (0, HdM.z, 5) := by rw [hH, if_pos (.inl h1)]
      repeat (first | refine CX.psA ?_ | refine CX.nil ?_ | refine CQ.thenN ?_ | refine CQ.thenR ?_ | refine CQ.thenX ?_ | refine CQ.blockN ?_ | refine CQ.blockR ?_ | refine CQ.blockX ?_ | refine CQ.blockYA ?_ | refine CC.seq ?_ | refine CC.block ?_ | refine CC.region ?_ | refine CC.skip ?_ | refine CC.ret ?_ | refine CC.exit ?_ | refine CC.condTA ?_ | refine CC.condFA ?_ | refine CC.condDTA ?_ | refine CC.condDFA ?_ | refine CX.storeA ?_ | refine CX.skipA ?_)
      (apply CX.ps; (· apply PS.build (vs := []) (out := hc HdM.z); (· rfl); (· rfl); (· rfl)))
      repeat (first | refine CX.psA ?_ | refine CX.nil ?_ | refine CQ.thenN ?_ | refine CQ.thenR ?_ | refine CQ.thenX ?_ | refine CQ.blockN ?_ | refine CQ.blockR ?_ | refine CQ.blockX ?_ | refine CQ.blockYA ?_ | refine CC.seq ?_ | refine CC.block ?_ | refine CC.region ?_ | refine CC.skip ?_ | refine CC.ret ?_ | refine CC.exit ?_ | refine CC.condTA ?_ | refine CC.condFA ?_ | refine CC.condDTA ?_ | refine CC.condDFA ?_ | refine CX.storeA ?_ | refine CX.skipA ?_)
      (refine CX.storeB (vs := hc HdM.z) ?_ ?_ ?_ ?_; (· rfl); (· rfl); (· exact one_all rfl))
      repeat (first | refine CX.psA ?_ | refine CX.nil ?_ | refine CQ.thenN ?_ | refine CQ.thenR ?_ | refine CQ.thenX ?_ | refine CQ.blockN ?_ | refine CQ.blockR ?_ | refine CQ.blockX ?_ | refine CQ.blockYA ?_ | refine CC.seq ?_ | refine CC.block ?_ | refine CC.region ?_ | refine CC.skip ?_ | refine CC.ret ?_ | refine CC.exit ?_ | refine CC.condTA ?_ | refine CC.condFA ?_ | refine CC.condDTA ?_ | refine CC.condDFA ?_ | refine CX.storeA ?_ | refine CX.skipA ?_)
      (apply CQ.end3; (· rfl); (· exact .tmp rfl); (· exact .cells inferInstance rfl (CellsAt.all (by repeat (first | exact .head _ | apply Pick.tail | apply Upd.tail))) rfl); (· exact .tmp rfl))
      · exact ⟨by rw [e] <;> rfl, rfl⟩
      · repeat (first | exact Sel.nil _ | (apply Sel.cons; (· repeat (first | exact .head _ | apply Pick.tail | apply Upd.tail))))
  · have e : getH B = (0, HdM.z, (getM B).2.2) := by unfold getH; rw [if_pos he]
    generalize (getM B).2.2 = er at he e
    repeat (first | refine CX.psA ?_ | refine CX.nil ?_ | refine CQ.thenN ?_ | refine CQ.thenR ?_ | refine CQ.thenX ?_ | refine CQ.blockN ?_ | refine CQ.blockR ?_ | refine CQ.blockX ?_ | refine CQ.blockYA ?_ | refine CC.seq ?_ | refine CC.block ?_ | refine CC.region ?_ | refine CC.skip ?_ | refine CC.ret ?_ | refine CC.exit ?_ | refine CC.condTA ?_ | refine CC.condFA ?_ | refine CC.condDTA ?_ | refine CC.condDFA ?_ | refine CX.storeA ?_ | refine CX.skipA ?_)
    (apply CX.ps; (· apply PS.build (vs := []) (out := hc HdM.z); (· rfl); (· rfl); (· rfl)))
    repeat (first | refine CX.psA ?_ | refine CX.nil ?_ | refine CQ.thenN ?_ | refine CQ.thenR ?_ | refine CQ.thenX ?_ | refine CQ.blockN ?_ | refine CQ.blockR ?_ | refine CQ.blockX ?_ | refine CQ.blockYA ?_ | refine CC.seq ?_ | refine CC.block ?_ | refine CC.region ?_ | refine CC.skip ?_ | refine CC.ret ?_ | refine CC.exit ?_ | refine CC.condTA ?_ | refine CC.condFA ?_ | refine CC.condDTA ?_ | refine CC.condDFA ?_ | refine CX.storeA ?_ | refine CX.skipA ?_)
    (refine CX.storeB (vs := hc HdM.z) ?_ ?_ ?_ ?_; (· rfl); (· rfl); (· exact one_all rfl))
    repeat (first | refine CX.psA ?_ | refine CX.nil ?_ | refine CQ.thenN ?_ | refine CQ.thenR ?_ | refine CQ.thenX ?_ | refine CQ.blockN ?_ | refine CQ.blockR ?_ | refine CQ.blockX ?_ | refine CQ.blockYA ?_ | refine CC.seq ?_ | refine CC.block ?_ | refine CC.region ?_ | refine CC.skip ?_ | refine CC.ret ?_ | refine CC.exit ?_ | refine CC.condTA ?_ | refine CC.condFA ?_ | refine CC.condDTA ?_ | refine CC.condDFA ?_ | refine CX.storeA ?_ | refine CX.skipA ?_)
    (apply CQ.end3; (· rfl); (· exact .tmp rfl); (· exact .cells inferInstance rfl (CellsAt.all (by repeat (first | exact .head _ | apply Pick.tail | apply Upd.tail))) rfl); (· exact .tmp rfl))
    · exact ⟨by rw [e] <;> rfl, rfl⟩
    · repeat (first | exact Sel.nil _ | (apply Sel.cons; (· repeat (first | exact .head _ | apply Pick.tail | apply Upd.tail))))
theorem r6newest_c (A B : Blk) (hA : WB A) (hB : WB B) : Ctr Try.prog 56 [.agg (cb A).toArray, .agg (cb B).toArray] [] (fun _ => True)
    (fun v M => v = .tuple #[.int .u64 ((newH A B).1 : Int), .agg (hc (newH A B).2.1).toArray, .int .i64 (newH A B).2.2] ∧ M = []) := by
  refine Ctr.intro Try.func56 rfl Try.ntmps56 rfl fun x w hp => ?_
  repeat (first | refine CX.psA ?_ | refine CX.nil ?_ | refine CQ.thenN ?_ | refine CQ.thenR ?_ | refine CQ.thenX ?_ | refine CQ.blockN ?_ | refine CQ.blockR ?_ | refine CQ.blockX ?_ | refine CQ.blockYA ?_ | refine CC.seq ?_ | refine CC.block ?_ | refine CC.region ?_ | refine CC.skip ?_ | refine CC.ret ?_ | refine CC.exit ?_ | refine CC.condTA ?_ | refine CC.condFA ?_ | refine CC.condDTA ?_ | refine CC.condDFA ?_ | refine CX.storeA ?_ | refine CX.skipA ?_)
  (refine CX.boxA ?_; intro r)
  repeat (first | refine CX.psA ?_ | refine CX.nil ?_ | refine CQ.thenN ?_ | refine CQ.thenR ?_ | refine CQ.thenX ?_ | refine CQ.blockN ?_ | refine CQ.blockR ?_ | refine CQ.blockX ?_ | refine CQ.blockYA ?_ | refine CC.seq ?_ | refine CC.block ?_ | refine CC.region ?_ | refine CC.skip ?_ | refine CC.ret ?_ | refine CC.exit ?_ | refine CC.condTA ?_ | refine CC.condFA ?_ | refine CC.condDTA ?_ | refine CC.condDFA ?_ | refine CX.storeA ?_ | refine CX.skipA ?_)
  (refine CX.boxA ?_; intro s)
  repeat (first | refine CX.psA ?_ | refine CX.nil ?_ | refine CQ.thenN ?_ | refine CQ.thenR ?_ | refine CQ.thenX ?_ | refine CQ.blockN ?_ | refine CQ.blockR ?_ | refine CQ.blockX ?_ | refine CQ.blockYA ?_ | refine CC.seq ?_ | refine CC.block ?_ | refine CC.region ?_ | refine CC.skip ?_ | refine CC.ret ?_ | refine CC.exit ?_ | refine CC.condTA ?_ | refine CC.condFA ?_ | refine CC.condDTA ?_ | refine CC.condDFA ?_ | refine CX.storeA ?_ | refine CX.skipA ?_)
  refine CX.allocZ (hc HdM.z) ?_ (hv := rfl)
  intro ro
  repeat (first | refine CX.psA ?_ | refine CX.nil ?_ | refine CQ.thenN ?_ | refine CQ.thenR ?_ | refine CQ.thenX ?_ | refine CQ.blockN ?_ | refine CQ.blockR ?_ | refine CQ.blockX ?_ | refine CQ.blockYA ?_ | refine CC.seq ?_ | refine CC.block ?_ | refine CC.region ?_ | refine CC.skip ?_ | refine CC.ret ?_ | refine CC.exit ?_ | refine CC.condTA ?_ | refine CC.condFA ?_ | refine CC.condDTA ?_ | refine CC.condDFA ?_ | refine CX.storeA ?_ | refine CX.skipA ?_)
  ((apply CX.ps; (· apply PS.loadG (vs := cb (A)); (· rfl); (· rfl); (· exact CellsAt.all (by repeat (first | exact .head _ | apply Pick.tail | apply Upd.tail))); (· exact hA.len))))
  refine CX.callA (r6get_c A hA) ?_
  rintro _ _ ⟨rfl, rfl⟩
  repeat (first | refine CX.psA ?_ | refine CX.nil ?_ | refine CQ.thenN ?_ | refine CQ.thenR ?_ | refine CQ.thenX ?_ | refine CQ.blockN ?_ | refine CQ.blockR ?_ | refine CQ.blockX ?_ | refine CQ.blockYA ?_ | refine CC.seq ?_ | refine CC.block ?_ | refine CC.region ?_ | refine CC.skip ?_ | refine CC.ret ?_ | refine CC.exit ?_ | refine CC.condTA ?_ | refine CC.condFA ?_ | refine CC.condDTA ?_ | refine CC.condDFA ?_ | refine CX.storeA ?_ | refine CX.skipA ?_)
  refine CX.allocZ (hc HdM.z) ?_ (hv := rfl)
  intro ra
  repeat (first | refine CX.psA ?_ | refine CX.nil ?_ | refine CQ.thenN ?_ | refine CQ.thenR ?_ | refine CQ.thenX ?_ | refine CQ.blockN ?_ | refine CQ.blockR ?_ | refine CQ.blockX ?_ | refine CQ.blockYA ?_ | refine CC.seq ?_ | refine CC.block ?_ | refine CC.region ?_ | refine CC.skip ?_ | refine CC.ret ?_ | refine CC.exit ?_ | refine CC.condTA ?_ | refine CC.condFA ?_ | refine CC.condDTA ?_ | refine CC.condDFA ?_ | refine CX.storeA ?_ | refine CX.skipA ?_)
  (refine CX.storeB (vs := hc (getH A).2.1) ?_ ?_ ?_ ?_; (· rfl); (· rfl); (· exact one_all rfl))
  repeat (first | refine CX.psA ?_ | refine CX.nil ?_ | refine CQ.thenN ?_ | refine CQ.thenR ?_ | refine CQ.thenX ?_ | refine CQ.blockN ?_ | refine CQ.blockR ?_ | refine CQ.blockX ?_ | refine CQ.blockYA ?_ | refine CC.seq ?_ | refine CC.block ?_ | refine CC.region ?_ | refine CC.skip ?_ | refine CC.ret ?_ | refine CC.exit ?_ | refine CC.condTA ?_ | refine CC.condFA ?_ | refine CC.condDTA ?_ | refine CC.condDFA ?_ | refine CX.storeA ?_ | refine CX.skipA ?_)
  ((apply CX.ps; (· apply PS.loadG (vs := cb (B)); (· rfl); (· rfl); (· exact CellsAt.all (by repeat (first | exact .head _ | apply Pick.tail | apply Upd.tail))); (· exact hB.len))))
  refine CX.callA (r6get_c B hB) ?_
  rintro _ _ ⟨rfl, rfl⟩
  repeat (first | refine CX.psA ?_ | refine CX.nil ?_ | refine CQ.thenN ?_ | refine CQ.thenR ?_ | refine CQ.thenX ?_ | refine CQ.blockN ?_ | refine CQ.blockR ?_ | refine CQ.blockX ?_ | refine CQ.blockYA ?_ | refine CC.seq ?_ | refine CC.block ?_ | refine CC.region ?_ | refine CC.skip ?_ | refine CC.ret ?_ | refine CC.exit ?_ | refine CC.condTA ?_ | refine CC.condFA ?_ | refine CC.condDTA ?_ | refine CC.condDFA ?_ | refine CX.storeA ?_ | refine CX.skipA ?_)
  refine CX.allocZ (hc HdM.z) ?_ (hv := rfl)
  intro rb
  repeat (first | refine CX.psA ?_ | refine CX.nil ?_ | refine CQ.thenN ?_ | refine CQ.thenR ?_ | refine CQ.thenX ?_ | refine CQ.blockN ?_ | refine CQ.blockR ?_ | refine CQ.blockX ?_ | refine CQ.blockYA ?_ | refine CC.seq ?_ | refine CC.block ?_ | refine CC.region ?_ | refine CC.skip ?_ | refine CC.ret ?_ | refine CC.exit ?_ | refine CC.condTA ?_ | refine CC.condFA ?_ | refine CC.condDTA ?_ | refine CC.condDFA ?_ | refine CX.storeA ?_ | refine CX.skipA ?_)
  (refine CX.storeB (vs := hc (getH B).2.1) ?_ ?_ ?_ ?_; (· rfl); (· rfl); (· exact one_all rfl))
  have eN := newH_eq A B
  generalize newH A B = N at eN
  generalize (getH A).2.2 = ea at eN
  generalize (getH B).2.2 = eb at eN
  generalize (getH A).1 = na at eN
  generalize (getH B).1 = nb at eN
  generalize (getH A).2.1 = ka at eN
  generalize (getH B).2.1 = kb at eN
  by_cases h1 : ea ≠ 0 ∧ eb ≠ 0
  · have e : N = (0, HdM.z, 7) := by rw [eN, if_pos h1]
    obtain ⟨h2, h3⟩ := h1
    repeat (first | refine CX.psA ?_ | refine CX.nil ?_ | refine CQ.thenN ?_ | refine CQ.thenR ?_ | refine CQ.thenX ?_ | refine CQ.blockN ?_ | refine CQ.blockR ?_ | refine CQ.blockX ?_ | refine CQ.blockYA ?_ | refine CC.seq ?_ | refine CC.block ?_ | refine CC.region ?_ | refine CC.skip ?_ | refine CC.ret ?_ | refine CC.exit ?_ | refine CC.condTA ?_ | refine CC.condFA ?_ | refine CC.condDTA ?_ | refine CC.condDFA ?_ | refine CX.storeA ?_ | refine CX.skipA ?_)
    (apply CX.ps; (· apply PS.build (vs := []) (out := hc HdM.z); (· rfl); (· rfl); (· rfl)))
    repeat (first | refine CX.psA ?_ | refine CX.nil ?_ | refine CQ.thenN ?_ | refine CQ.thenR ?_ | refine CQ.thenX ?_ | refine CQ.blockN ?_ | refine CQ.blockR ?_ | refine CQ.blockX ?_ | refine CQ.blockYA ?_ | refine CC.seq ?_ | refine CC.block ?_ | refine CC.region ?_ | refine CC.skip ?_ | refine CC.ret ?_ | refine CC.exit ?_ | refine CC.condTA ?_ | refine CC.condFA ?_ | refine CC.condDTA ?_ | refine CC.condDFA ?_ | refine CX.storeA ?_ | refine CX.skipA ?_)
    (refine CX.storeB (vs := hc HdM.z) ?_ ?_ ?_ ?_; (· rfl); (· rfl); (· exact one_all rfl))
    repeat (first | refine CX.psA ?_ | refine CX.nil ?_ | refine CQ.thenN ?_ | refine CQ.thenR ?_ | refine CQ.thenX ?_ | refine CQ.blockN ?_ | refine CQ.blockR ?_ | refine CQ.blockX ?_ | refine CQ.blockYA ?_ | refine CC.seq ?_ | refine CC.block ?_ | refine CC.region ?_ | refine CC.skip ?_ | refine CC.ret ?_ | refine CC.exit ?_ | refine CC.condTA ?_ | refine CC.condFA ?_ | refine CC.condDTA ?_ | refine CC.condDFA ?_ | refine CX.storeA ?_ | refine CX.skipA ?_)
    (apply CQ.end3; (· rfl); (· exact .tmp rfl); (· exact .cells inferInstance rfl (CellsAt.all (by repeat (first | exact .head _ | apply Pick.tail | apply Upd.tail))) rfl); (· exact .tmp rfl))
    · exact ⟨by rw [e] <;> rfl, rfl⟩
    · repeat (first | exact Sel.nil _ | (apply Sel.cons; (· repeat (first | exact .head _ | apply Pick.tail | apply Upd.tail))))
  · rw [if_neg h1] at eN
    have h1' : ea = 0 ∨ ea ≠ 0 ∧ eb = 0 := by omega
    by_cases h4 : na < nb
    · have e : N = (nb, kb, 0) := by rw [eN, if_pos h4]
      rcases h1' with h2 | ⟨h2, h3⟩
      · repeat (first | refine CX.psA ?_ | refine CX.nil ?_ | refine CQ.thenN ?_ | refine CQ.thenR ?_ | refine CQ.thenX ?_ | refine CQ.blockN ?_ | refine CQ.blockR ?_ | refine CQ.blockX ?_ | refine CQ.blockYA ?_ | refine CC.seq ?_ | refine CC.block ?_ | refine CC.region ?_ | refine CC.skip ?_ | refine CC.ret ?_ | refine CC.exit ?_ | refine CC.condTA ?_ | refine CC.condFA ?_ | refine CC.condDTA ?_ | refine CC.condDFA ?_ | refine CX.storeA ?_ | refine CX.skipA ?_)
        refine CC.draw [(0, 0), (1, 1), (2, 0), (3, 3), (4, 0)] mixed rfl (by kernel_rfl) (by kernel_rfl) [bk rb 68 (hc kb)] ?_
        repeat (first | refine CH.pureA ?_ | refine CH.readA ?_ | refine CH.skA ?_ | refine CH.skCA ?_ | refine CH.nil ?_)
        (apply CH.read; (· rfl); (· apply PS.loadG (vs := hc kb); (· rfl); (· rfl); (· exact CellsAt.all (by repeat (first | exact .head _ | apply Pick.tail | apply Upd.tail))); (· rfl)); (· repeat (first | exact Sel.nil _ | (apply Sel.cons; (· repeat (first | exact .head _ | apply Pick.tail | apply Upd.tail))))))
        repeat (first | refine CH.pureA ?_ | refine CH.readA ?_ | refine CH.skA ?_ | refine CH.skCA ?_ | refine CH.nil ?_)
        refine CH.tail rfl rfl fun K hK => ?_
        (refine CX.storeB (vs := hc kb) ?_ ?_ ?_ ?_; (· rfl); (· rfl); (· exact one_all rfl))
        (refine CX.nil ?_; refine CQ.thenK ?_; apply hK; clear hK K)
        repeat (first | refine CH.pureA ?_ | refine CH.readA ?_ | refine CH.skA ?_ | refine CH.skCA ?_ | refine CH.nil ?_)
        repeat (first | refine CX.psA ?_ | refine CX.nil ?_ | refine CQ.thenN ?_ | refine CQ.thenR ?_ | refine CQ.thenX ?_ | refine CQ.blockN ?_ | refine CQ.blockR ?_ | refine CQ.blockX ?_ | refine CQ.blockYA ?_ | refine CC.seq ?_ | refine CC.block ?_ | refine CC.region ?_ | refine CC.skip ?_ | refine CC.ret ?_ | refine CC.exit ?_ | refine CC.condTA ?_ | refine CC.condFA ?_ | refine CC.condDTA ?_ | refine CC.condDFA ?_ | refine CX.storeA ?_ | refine CX.skipA ?_)
        (apply CQ.end3; (· rfl); (· exact .tmp rfl); (· exact .cells inferInstance rfl (CellsAt.all (by repeat (first | exact .head _ | apply Pick.tail | apply Upd.tail))) rfl); (· exact .tmp rfl))
        · exact ⟨by rw [e] <;> rfl, rfl⟩
        · repeat (first | exact Sel.nil _ | (apply Sel.cons; (· repeat (first | exact .head _ | apply Pick.tail | apply Upd.tail))))
      · repeat (first | refine CX.psA ?_ | refine CX.nil ?_ | refine CQ.thenN ?_ | refine CQ.thenR ?_ | refine CQ.thenX ?_ | refine CQ.blockN ?_ | refine CQ.blockR ?_ | refine CQ.blockX ?_ | refine CQ.blockYA ?_ | refine CC.seq ?_ | refine CC.block ?_ | refine CC.region ?_ | refine CC.skip ?_ | refine CC.ret ?_ | refine CC.exit ?_ | refine CC.condTA ?_ | refine CC.condFA ?_ | refine CC.condDTA ?_ | refine CC.condDFA ?_ | refine CX.storeA ?_ | refine CX.skipA ?_)
        refine CC.draw [(0, 0), (1, 1), (2, 0), (3, 3), (4, 0)] mixed rfl (by kernel_rfl) (by kernel_rfl) [bk rb 68 (hc kb)] ?_
        repeat (first | refine CH.pureA ?_ | refine CH.readA ?_ | refine CH.skA ?_ | refine CH.skCA ?_ | refine CH.nil ?_)
        (apply CH.read; (· rfl); (· apply PS.loadG (vs := hc kb); (· rfl); (· rfl); (· exact CellsAt.all (by repeat (first | exact .head _ | apply Pick.tail | apply Upd.tail))); (· rfl)); (· repeat (first | exact Sel.nil _ | (apply Sel.cons; (· repeat (first | exact .head _ | apply Pick.tail | apply Upd.tail))))))
        repeat (first | refine CH.pureA ?_ | refine CH.readA ?_ | refine CH.skA ?_ | refine CH.skCA ?_ | refine CH.nil ?_)
        refine CH.tail rfl rfl fun K hK => ?_
        (refine CX.storeB (vs := hc kb) ?_ ?_ ?_ ?_; (· rfl); (· rfl); (· exact one_all rfl))
        (refine CX.nil ?_; refine CQ.thenK ?_; apply hK; clear hK K)
        repeat (first | refine CH.pureA ?_ | refine CH.readA ?_ | refine CH.skA ?_ | refine CH.skCA ?_ | refine CH.nil ?_)
        repeat (first | refine CX.psA ?_ | refine CX.nil ?_ | refine CQ.thenN ?_ | refine CQ.thenR ?_ | refine CQ.thenX ?_ | refine CQ.blockN ?_ | refine CQ.blockR ?_ | refine CQ.blockX ?_ | refine CQ.blockYA ?_ | refine CC.seq ?_ | refine CC.block ?_ | refine CC.region ?_ | refine CC.skip ?_ | refine CC.ret ?_ | refine CC.exit ?_ | refine CC.condTA ?_ | refine CC.condFA ?_ | refine CC.condDTA ?_ | refine CC.condDFA ?_ | refine CX.storeA ?_ | refine CX.skipA ?_)
        (apply CQ.end3; (· rfl); (· exact .tmp rfl); (· exact .cells inferInstance rfl (CellsAt.all (by repeat (first | exact .head _ | apply Pick.tail | apply Upd.tail))) rfl); (· exact .tmp rfl))
        · exact ⟨by rw [e] <;> rfl, rfl⟩
        · repeat (first | exact Sel.nil _ | (apply Sel.cons; (· repeat (first | exact .head _ | apply Pick.tail | apply Upd.tail))))
    · have e : N = (na, ka, 0) := by rw [eN, if_neg h4]
      rcases h1' with h2 | ⟨h2, h3⟩
      · repeat (first | refine CX.psA ?_ | refine CX.nil ?_ | refine CQ.thenN ?_ | refine CQ.thenR ?_ | refine CQ.thenX ?_ | refine CQ.blockN ?_ | refine CQ.blockR ?_ | refine CQ.blockX ?_ | refine CQ.blockYA ?_ | refine CC.seq ?_ | refine CC.block ?_ | refine CC.region ?_ | refine CC.skip ?_ | refine CC.ret ?_ | refine CC.exit ?_ | refine CC.condTA ?_ | refine CC.condFA ?_ | refine CC.condDTA ?_ | refine CC.condDFA ?_ | refine CX.storeA ?_ | refine CX.skipA ?_)
        refine CC.draw [(0, 0), (1, 1), (2, 0), (3, 3), (4, 0)] mixed rfl (by kernel_rfl) (by kernel_rfl) [bk ra 68 (hc ka)] ?_
        repeat (first | refine CH.pureA ?_ | refine CH.readA ?_ | refine CH.skA ?_ | refine CH.skCA ?_ | refine CH.nil ?_)
        (apply CH.read; (· rfl); (· apply PS.loadG (vs := hc ka); (· rfl); (· rfl); (· exact CellsAt.all (by repeat (first | exact .head _ | apply Pick.tail | apply Upd.tail))); (· rfl)); (· repeat (first | exact Sel.nil _ | (apply Sel.cons; (· repeat (first | exact .head _ | apply Pick.tail | apply Upd.tail))))))
        repeat (first | refine CH.pureA ?_ | refine CH.readA ?_ | refine CH.skA ?_ | refine CH.skCA ?_ | refine CH.nil ?_)
        refine CH.tail rfl rfl fun K hK => ?_
        (refine CX.storeB (vs := hc ka) ?_ ?_ ?_ ?_; (· rfl); (· rfl); (· exact one_all rfl))
        (refine CX.nil ?_; refine CQ.thenK ?_; apply hK; clear hK K)
        repeat (first | refine CH.pureA ?_ | refine CH.readA ?_ | refine CH.skA ?_ | refine CH.skCA ?_ | refine CH.nil ?_)
        repeat (first | refine CX.psA ?_ | refine CX.nil ?_ | refine CQ.thenN ?_ | refine CQ.thenR ?_ | refine CQ.thenX ?_ | refine CQ.blockN ?_ | refine CQ.blockR ?_ | refine CQ.blockX ?_ | refine CQ.blockYA ?_ | refine CC.seq ?_ | refine CC.block ?_ | refine CC.region ?_ | refine CC.skip ?_ | refine CC.ret ?_ | refine CC.exit ?_ | refine CC.condTA ?_ | refine CC.condFA ?_ | refine CC.condDTA ?_ | refine CC.condDFA ?_ | refine CX.storeA ?_ | refine CX.skipA ?_)
        (apply CQ.end3; (· rfl); (· exact .tmp rfl); (· exact .cells inferInstance rfl (CellsAt.all (by repeat (first | exact .head _ | apply Pick.tail | apply Upd.tail))) rfl); (· exact .tmp rfl))
        · exact ⟨by rw [e] <;> rfl, rfl⟩
        · repeat (first | exact Sel.nil _ | (apply Sel.cons; (· repeat (first | exact .head _ | apply Pick.tail | apply Upd.tail))))
      · repeat (first | refine CX.psA ?_ | refine CX.nil ?_ | refine CQ.thenN ?_ | refine CQ.thenR ?_ | refine CQ.thenX ?_ | refine CQ.blockN ?_ | refine CQ.blockR ?_ | refine CQ.blockX ?_ | refine CQ.blockYA ?_ | refine CC.seq ?_ | refine CC.block ?_ | refine CC.region ?_ | refine CC.skip ?_ | refine CC.ret ?_ | refine CC.exit ?_ | refine CC.condTA ?_ | refine CC.condFA ?_ | refine CC.condDTA ?_ | refine CC.condDFA ?_ | refine CX.storeA ?_ | refine CX.skipA ?_)
        refine CC.draw [(0, 0), (1, 1), (2, 0), (3, 3), (4, 0)] mixed rfl (by kernel_rfl) (by kernel_rfl) [bk ra 68 (hc ka)] ?_
        repeat (first | refine CH.pureA ?_ | refine CH.readA ?_ | refine CH.skA ?_ | refine CH.skCA ?_ | refine CH.nil ?_)
        (apply CH.read; (· rfl); (· apply PS.loadG (vs := hc ka); (· rfl); (· rfl); (· exact CellsAt.all (by repeat (first | exact .head _ | apply Pick.tail | apply Upd.tail))); (· rfl)); (· repeat (first | exact Sel.nil _ | (apply Sel.cons; (· repeat (first | exact .head _ | apply Pick.tail | apply Upd.tail))))))
        repeat (first | refine CH.pureA ?_ | refine CH.readA ?_ | refine CH.skA ?_ | refine CH.skCA ?_ | refine CH.nil ?_)
        refine CH.tail rfl rfl fun K hK => ?_
        (refine CX.storeB (vs := hc ka) ?_ ?_ ?_ ?_; (· rfl); (· rfl); (· exact one_all rfl))
        (refine CX.nil ?_; refine CQ.thenK ?_; apply hK; clear hK K)
        repeat (first | refine CH.pureA ?_ | refine CH.readA ?_ | refine CH.skA ?_ | refine CH.skCA ?_ | refine CH.nil ?_)
        repeat (first | refine CX.psA ?_ | refine CX.nil ?_ | refine CQ.thenN ?_ | refine CQ.thenR ?_ | refine CQ.thenX ?_ | refine CQ.blockN ?_ | refine CQ.blockR ?_ | refine CQ.blockX ?_ | refine CQ.blockYA ?_ | refine CC.seq ?_ | refine CC.block ?_ | refine CC.region ?_ | refine CC.skip ?_ | refine CC.ret ?_ | refine CC.exit ?_ | refine CC.condTA ?_ | refine CC.condFA ?_ | refine CC.condDTA ?_ | refine CC.condDFA ?_ | refine CX.storeA ?_ | refine CX.skipA ?_)
        (apply CQ.end3; (· rfl); (· exact .tmp rfl); (· exact .cells inferInstance rfl (CellsAt.all (by repeat (first | exact .head _ | apply Pick.tail | apply Upd.tail))) rfl); (· exact .tmp rfl))
        · exact ⟨by rw [e] <;> rfl, rfl⟩
        · repeat (first | exact Sel.nil _ | (apply Sel.cons; (· repeat (first | exact .head _ | apply Pick.tail | apply Upd.tail))))
end Go.Proofs.Ytlckhaodecdbbaa
