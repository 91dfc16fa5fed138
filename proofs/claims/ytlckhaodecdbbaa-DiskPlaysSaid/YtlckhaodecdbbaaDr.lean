/- The disk's Rot and Copy. -/
import Derived.Test.YtlckhaodecdbbaaDk
import Derived.Test.YtlckhaodecdbbaaCh
set_option linter.unusedVariables false
set_option linter.unusedSimpArgs false
namespace Go.Proofs.Ytlckhaodecdbbaa
open Go.Cx
attribute [local irreducible] Go.Cx.CX Go.Cx.CC Go.Cx.CQ Go.Cx.PS Go.Cx.Ctr Go.Cx.CH
set_option maxRecDepth 10000

theorem cb_set (b : Blk) (q : Nat) (c : UInt8) (hq : q < b.length) : cb (b.set q c) = setL (cb b) q [.int .u8 (c.toNat : Int)] := by
  rw [setL_one _ _ _ (by rw [length_cb]; exact hq)]
  simp [cb, ib, List.map_set]
theorem flat_set1 {S : List Blk} (h : ∀ b ∈ S, WB b) {k : Nat} (hk : k < S.length) {q : Nat} (hq : q < 128) (c : UInt8) : setL (flat S) (k * 128 + q) [.int .u8 (c.toNat : Int)] = flat (S.set k ((S.getD k []).set q c)) := by
  have hg : S.getD k [] = S[k] := by simp [hk]
  have hw := h S[k] (by simp)
  rw [hg]
  exact rows_set cb 128 S (fun x hx => (h x hx).len) k hk q [.int .u8 (c.toNat : Int)] (S[k].set q c) (by simp; omega) (cb_set _ _ _ (by rw [hw]; exact hq))
theorem cloneB_c (S : List Blk) (g cap : Nat) (hS : S.length ≤ 4096) (h0 : 0 < S.length) : Ctr Try.prog 102 [.slice (some ⟨g, 0, none⟩) S.length cap] [own 29 128 (some ⟨g, 0, none⟩) S.length cap (flat S)] (fun _ => True)
    (fun v M => ∃ q c, v = .slice (some ⟨q, 0, none⟩) S.length c ∧ M = [own 29 128 (some ⟨g, 0, none⟩) S.length cap (flat S), own 29 128 (some ⟨q, 0, none⟩) S.length c (flat S)]) := by
  refine Ctr.intro Try.func102 rfl Try.ntmps102 rfl fun x w hp => ?_
  repeat (first | refine CX.psA ?_ | refine CX.nil ?_ | refine CQ.thenN ?_ | refine CQ.thenR ?_ | refine CQ.thenX ?_ | refine CQ.blockN ?_ | refine CQ.blockR ?_ | refine CQ.blockX ?_ | refine CQ.blockYA ?_ | refine CC.seq ?_ | refine CC.block ?_ | refine CC.region ?_ | refine CC.skip ?_ | refine CC.ret ?_ | refine CC.exit ?_ | refine CC.condTA ?_ | refine CC.condFA ?_ | refine CC.condDTA ?_ | refine CC.condDFA ?_ | refine CX.storeA ?_ | refine CX.skipA ?_)
  refine CX.buildSl0 ?_
  intro b
  repeat (first | refine CX.psA ?_ | refine CX.nil ?_ | refine CQ.thenN ?_ | refine CQ.thenR ?_ | refine CQ.thenX ?_ | refine CQ.blockN ?_ | refine CQ.blockR ?_ | refine CQ.blockX ?_ | refine CQ.blockYA ?_ | refine CC.seq ?_ | refine CC.block ?_ | refine CC.region ?_ | refine CC.skip ?_ | refine CC.ret ?_ | refine CC.exit ?_ | refine CC.condTA ?_ | refine CC.condFA ?_ | refine CC.condDTA ?_ | refine CC.condDFA ?_ | refine CX.storeA ?_ | refine CX.skipA ?_)
  apply CX.append (m := S.length) (news := flat S)
  · rfl
  · rfl
  · rfl
  · repeat (first | exact .head _ | apply Pick.tail | apply Upd.tail)
  · exact RdS.own (by repeat (first | exact .head _ | apply Pick.tail | apply Upd.tail)) (one_flat _) rfl
  · omega
  · intro hh; cases hh
  intro a' c'
  rw [Nat.zero_add, List.nil_append]
  repeat (first | refine CX.psA ?_ | refine CX.nil ?_ | refine CQ.thenN ?_ | refine CQ.thenR ?_ | refine CQ.thenX ?_ | refine CQ.blockN ?_ | refine CQ.blockR ?_ | refine CQ.blockX ?_ | refine CQ.blockYA ?_ | refine CC.seq ?_ | refine CC.block ?_ | refine CC.region ?_ | refine CC.skip ?_ | refine CC.ret ?_ | refine CC.exit ?_ | refine CC.condTA ?_ | refine CC.condFA ?_ | refine CC.condDTA ?_ | refine CC.condDFA ?_ | refine CX.storeA ?_ | refine CX.skipA ?_)
  refine CQ.fact (p := ∃ b, a' = some ⟨b, 0, none⟩) (fun h hs => ?_) fun ha => ?_
  · rcases own_some (Sep.head hs) with ⟨_, h0, _⟩ | hh
    · omega
    · exact hh
  obtain ⟨q, rfl⟩ := ha
  (apply CQ.end1; (· rfl); (· exact .tmp rfl))
  · exact ⟨q, c', rfl, rfl⟩
  · repeat (first | exact Sel.nil _ | (apply Sel.cons; (· repeat (first | exact .head _ | apply Pick.tail | apply Upd.tail))))
theorem cloneP_c (l : List (Nat × Blk)) (a : Option Addr) (cap : Nat) (hS : l.length ≤ 1000000) : Ctr Try.prog 103 [.slice a l.length cap] [own 127 129 a l.length cap (flatL l)] (fun _ => True)
    (fun v M => ∃ q c, v = .slice q l.length c ∧ M = [own 127 129 a l.length cap (flatL l), own 127 129 q l.length c (flatL l)]) := by
  refine Ctr.intro Try.func103 rfl Try.ntmps103 rfl fun x w hp => ?_
  repeat (first | refine CX.psA ?_ | refine CX.nil ?_ | refine CQ.thenN ?_ | refine CQ.thenR ?_ | refine CQ.thenX ?_ | refine CQ.blockN ?_ | refine CQ.blockR ?_ | refine CQ.blockX ?_ | refine CQ.blockYA ?_ | refine CC.seq ?_ | refine CC.block ?_ | refine CC.region ?_ | refine CC.skip ?_ | refine CC.ret ?_ | refine CC.exit ?_ | refine CC.condTA ?_ | refine CC.condFA ?_ | refine CC.condDTA ?_ | refine CC.condDFA ?_ | refine CX.storeA ?_ | refine CX.skipA ?_)
  refine CC.fact (p := a = none ∧ l.length = 0 ∧ cap = 0 ∨ ∃ g, a = some ⟨g, 0, none⟩) (fun h hs => own_some (Sep.head hs)) fun ha => ?_
  rcases ha with ⟨rfl, h0, rfl⟩ | ⟨g, rfl⟩
  · obtain rfl : l = [] := List.length_eq_zero_iff.1 h0
    repeat (first | refine CX.psA ?_ | refine CX.nil ?_ | refine CQ.thenN ?_ | refine CQ.thenR ?_ | refine CQ.thenX ?_ | refine CQ.blockN ?_ | refine CQ.blockR ?_ | refine CQ.blockX ?_ | refine CQ.blockYA ?_ | refine CC.seq ?_ | refine CC.block ?_ | refine CC.region ?_ | refine CC.skip ?_ | refine CC.ret ?_ | refine CC.exit ?_ | refine CC.condTA ?_ | refine CC.condFA ?_ | refine CC.condDTA ?_ | refine CC.condDFA ?_ | refine CX.storeA ?_ | refine CX.skipA ?_)
    refine CQ.ownNil 127 129 ?_
    (apply CQ.end1; (· rfl); (· exact .tmp rfl))
    · exact ⟨none, 0, rfl, rfl⟩
    · repeat (first | exact Sel.nil _ | (apply Sel.cons; (· repeat (first | exact .head _ | apply Pick.tail | apply Upd.tail))))
  · repeat (first | refine CX.psA ?_ | refine CX.nil ?_ | refine CQ.thenN ?_ | refine CQ.thenR ?_ | refine CQ.thenX ?_ | refine CQ.blockN ?_ | refine CQ.blockR ?_ | refine CQ.blockX ?_ | refine CQ.blockYA ?_ | refine CC.seq ?_ | refine CC.block ?_ | refine CC.region ?_ | refine CC.skip ?_ | refine CC.ret ?_ | refine CC.exit ?_ | refine CC.condTA ?_ | refine CC.condFA ?_ | refine CC.condDTA ?_ | refine CC.condDFA ?_ | refine CX.storeA ?_ | refine CX.skipA ?_)
    refine CX.buildSl0 ?_
    intro b
    repeat (first | refine CX.psA ?_ | refine CX.nil ?_ | refine CQ.thenN ?_ | refine CQ.thenR ?_ | refine CQ.thenX ?_ | refine CQ.blockN ?_ | refine CQ.blockR ?_ | refine CQ.blockX ?_ | refine CQ.blockYA ?_ | refine CC.seq ?_ | refine CC.block ?_ | refine CC.region ?_ | refine CC.skip ?_ | refine CC.ret ?_ | refine CC.exit ?_ | refine CC.condTA ?_ | refine CC.condFA ?_ | refine CC.condDTA ?_ | refine CC.condDFA ?_ | refine CX.storeA ?_ | refine CX.skipA ?_)
    apply CX.append (m := l.length) (news := flatL l)
    · rfl
    · rfl
    · rfl
    · repeat (first | exact .head _ | apply Pick.tail | apply Upd.tail)
    · exact RdS.own (by repeat (first | exact .head _ | apply Pick.tail | apply Upd.tail)) (one_flatL _) rfl
    · omega
    · intro hh; cases hh
    intro a' c'
    rw [Nat.zero_add, List.nil_append]
    repeat (first | refine CX.psA ?_ | refine CX.nil ?_ | refine CQ.thenN ?_ | refine CQ.thenR ?_ | refine CQ.thenX ?_ | refine CQ.blockN ?_ | refine CQ.blockR ?_ | refine CQ.blockX ?_ | refine CQ.blockYA ?_ | refine CC.seq ?_ | refine CC.block ?_ | refine CC.region ?_ | refine CC.skip ?_ | refine CC.ret ?_ | refine CC.exit ?_ | refine CC.condTA ?_ | refine CC.condFA ?_ | refine CC.condDTA ?_ | refine CC.condDFA ?_ | refine CX.storeA ?_ | refine CX.skipA ?_)
    (apply CQ.end1; (· rfl); (· exact .tmp rfl))
    · exact ⟨a', c', rfl, rfl⟩
    · repeat (first | exact Sel.nil _ | (apply Sel.cons; (· repeat (first | exact .head _ | apply Pick.tail | apply Upd.tail))))
theorem rot_c (p : Nat) (D : DS) (n at_ : Int) (y : UInt8) {N : Nat} (h : D.wf N) (hN : N < 1000000) : Ctr Try.prog 60 [.pointer (some ⟨p, 0, none⟩), .int .i64 n, .int .i64 at_, .int .u8 y.toNat] [disk p D] (fun _ => True) (fun v M => v = .int .i64 (D.rot n at_ y).1 ∧ M = [disk p (D.rot n at_ y).2]) := by
  refine Ctr.intro Try.func60 rfl Try.ntmps60 rfl fun x w hp => ?_
  repeat (first | refine CX.psA ?_ | refine CX.nil ?_ | refine CQ.thenN ?_ | refine CQ.thenR ?_ | refine CQ.thenX ?_ | refine CQ.blockN ?_ | refine CQ.blockR ?_ | refine CQ.blockX ?_ | refine CQ.blockYA ?_ | refine CC.seq ?_ | refine CC.block ?_ | refine CC.region ?_ | refine CC.skip ?_ | refine CC.ret ?_ | refine CC.exit ?_ | refine CC.condTA ?_ | refine CC.condFA ?_ | refine CC.condDTA ?_ | refine CC.condDFA ?_ | refine CX.storeA ?_ | refine CX.skipA ?_)
  refine CX.callA (there_c p D n) ?_
  rintro _ _ ⟨rfl, rfl⟩
  by_cases h0 : D.there n = 0
  · obtain ⟨k, rfl, hk⟩ := there_ok h0
    by_cases h1 : at_ < 0
    · have e : D.rot k at_ y = (2, D) := by simp [DS.rot, h0, h1]
      repeat (first | refine CX.psA ?_ | refine CX.nil ?_ | refine CQ.thenN ?_ | refine CQ.thenR ?_ | refine CQ.thenX ?_ | refine CQ.blockN ?_ | refine CQ.blockR ?_ | refine CQ.blockX ?_ | refine CQ.blockYA ?_ | refine CC.seq ?_ | refine CC.block ?_ | refine CC.region ?_ | refine CC.skip ?_ | refine CC.ret ?_ | refine CC.exit ?_ | refine CC.condTA ?_ | refine CC.condFA ?_ | refine CC.condDTA ?_ | refine CC.condDFA ?_ | refine CX.storeA ?_ | refine CX.skipA ?_)
      rw [e]
      ((apply CQ.end1; (· rfl); (· exact .tmp rfl)); (· exact ⟨rfl, rfl⟩); (· repeat (first | exact Sel.nil _ | (apply Sel.cons; (· repeat (first | exact .head _ | apply Pick.tail | apply Upd.tail))))))
    by_cases h2 : 128 ≤ at_
    · have e : D.rot k at_ y = (2, D) := by simp [DS.rot, h0, h2]
      repeat (first | refine CX.psA ?_ | refine CX.nil ?_ | refine CQ.thenN ?_ | refine CQ.thenR ?_ | refine CQ.thenX ?_ | refine CQ.blockN ?_ | refine CQ.blockR ?_ | refine CQ.blockX ?_ | refine CQ.blockYA ?_ | refine CC.seq ?_ | refine CC.block ?_ | refine CC.region ?_ | refine CC.skip ?_ | refine CC.ret ?_ | refine CC.exit ?_ | refine CC.condTA ?_ | refine CC.condFA ?_ | refine CC.condDTA ?_ | refine CC.condDFA ?_ | refine CX.storeA ?_ | refine CX.skipA ?_)
      rw [e]
      ((apply CQ.end1; (· rfl); (· exact .tmp rfl)); (· exact ⟨rfl, rfl⟩); (· repeat (first | exact Sel.nil _ | (apply Sel.cons; (· repeat (first | exact .head _ | apply Pick.tail | apply Upd.tail))))))
    · obtain ⟨q, rfl⟩ : ∃ q : Nat, at_ = q := ⟨at_.toNat, by omega⟩
      have e : D.rot k q y = (0, { D with sure := D.sure.set k ((D.sure.getD k []).set q ((D.sure.getD k []).getD q 0 ^^^ y)) }) := by simp [DS.rot, h0, h1, h2]
      repeat (first | refine CX.psA ?_ | refine CX.nil ?_ | refine CQ.thenN ?_ | refine CQ.thenR ?_ | refine CQ.thenX ?_ | refine CQ.blockN ?_ | refine CQ.blockR ?_ | refine CQ.blockX ?_ | refine CQ.blockYA ?_ | refine CC.seq ?_ | refine CC.block ?_ | refine CC.region ?_ | refine CC.skip ?_ | refine CC.ret ?_ | refine CC.exit ?_ | refine CC.condTA ?_ | refine CC.condFA ?_ | refine CC.condDTA ?_ | refine CC.condDFA ?_ | refine CX.storeA ?_ | refine CX.skipA ?_)
      (refine CC.openL (disk_eq p _) (by repeat (first | exact .head _ | apply Pick.tail | apply Upd.tail)) ?_; rintro ⟨sb, sc, la, lc⟩ -)
      refine CC.draw [(0, 0), (1, 0), (2, 0), (3, 1), (4, 0), (5, 0), (6, 0), (7, 0), (8, 1), (9, 0), (10, 0), (11, 0), (12, 0), (13, 3)] mixed rfl (by kernel_rfl) (by kernel_rfl) [bk p 89 [.slice (some ⟨sb, 0, none⟩) D.sure.length sc, .slice la D.loose.length lc, .int .i64 D.left, .int .i64 (D.steps : Int), .bool D.dark], own 29 128 (some ⟨sb, 0, none⟩) D.sure.length sc (flat D.sure)] ?_
      repeat (first | refine CH.pureA ?_ | refine CH.readA ?_ | refine CH.skA ?_ | refine CH.skCA ?_ | refine CH.nil ?_)
      have hb : WB D.sure[k] := h.wb _ (by simp)
      have hq : q < 128 := by omega
      have hg : D.sure.getD k [] = D.sure[k] := by simp [hk]
      have hgq : (D.sure[k] : Blk).getD q 0 = D.sure[k][q]'(by rw [hb]; exact hq) := by simp [show q < (D.sure[k] : Blk).length by rw [hb]; exact hq]
      have hv : (flat D.sure)[0 + k * 128 + q * 1]? = some (.int .u8 (((D.sure[k] : Blk).getD q 0).toNat : Int)) := by
        have := rows_at cb 128 D.sure (fun x hx => (h.wb x hx).len) k hk q hq
        rw [Nat.zero_add, Nat.mul_one, flat, this, hgq, cb_get _ _ (by rw [hb]; exact hq)]
      rw [hg] at e
      have e1 := flat_set1 h.wb hk hq ((D.sure[k] : Blk).getD q 0 ^^^ y)
      rw [hg] at e1
      generalize (D.sure[k] : Blk).getD q 0 = old at hv e e1
      (apply CH.pure; (· rfl); (· apply PS.indexAddr (j := k); (· rfl); (· rfl); (· rfl); (· rfl); (· exact hk)))
      (apply CH.pure; (· rfl); (· apply PS.indexArr (j := q); (· rfl); (· rfl); (· rfl); (· rfl); (· exact hq)))
      (apply CH.read; (· rfl); (· apply PS.load (v := .int .u8 (old.toNat : Int)); (· rfl); (· rfl); (· exact CellAt.own (by repeat (first | exact .head _ | apply Pick.tail | apply Upd.tail)) hv)); (· repeat (first | exact Sel.nil _ | (apply Sel.cons; (· repeat (first | exact .head _ | apply Pick.tail | apply Upd.tail))))))
      repeat (first | refine CH.pureA ?_ | refine CH.readA ?_ | refine CH.skA ?_ | refine CH.skCA ?_ | refine CH.nil ?_)
      (apply CH.pure; (· rfl); (· apply PS.xorN (k := .u8) old.toNat y.toNat rfl (UInt8.toNat_lt old) (UInt8.toNat_lt y) <;> rfl))
      (apply CH.pure; (· rfl); (· apply PS.indexAddr (j := k); (· rfl); (· rfl); (· rfl); (· rfl); (· exact hk)))
      (apply CH.pure; (· rfl); (· apply PS.indexArr (j := q); (· rfl); (· rfl); (· rfl); (· rfl); (· exact hq)))
      refine CH.tail rfl rfl fun K hK => ?_
      apply CX.storeOwn (v := .int .u8 ((old ^^^ y).toNat : Int))
      · rfl
      · rfl
      · rw [UInt8.toNat_xor]; rfl
      · rfl
      · intro u hu; simp [Value.cells] at hu; rw [hu]; rfl
      · repeat (first | exact .head _ | apply Pick.tail | apply Upd.tail)
      · omega
      (refine CX.nil ?_; refine CQ.thenK ?_; apply hK; clear hK K)
      repeat (first | refine CH.pureA ?_ | refine CH.readA ?_ | refine CH.skA ?_ | refine CH.skCA ?_ | refine CH.nil ?_)
      repeat (first | refine CX.psA ?_ | refine CX.nil ?_ | refine CQ.thenN ?_ | refine CQ.thenR ?_ | refine CQ.thenX ?_ | refine CQ.blockN ?_ | refine CQ.blockR ?_ | refine CQ.blockX ?_ | refine CQ.blockYA ?_ | refine CC.seq ?_ | refine CC.block ?_ | refine CC.region ?_ | refine CC.skip ?_ | refine CC.ret ?_ | refine CC.exit ?_ | refine CC.condTA ?_ | refine CC.condFA ?_ | refine CC.condDTA ?_ | refine CC.condDFA ?_ | refine CX.storeA ?_ | refine CX.skipA ?_)
      have e2 : setL (flat D.sure) (0 + k * 128 + q * 1) (Value.int .u8 ((old ^^^ y).toNat : Int)).cells.toList = flat (D.sure.set k (List.set (D.sure[k] : Blk) q (old ^^^ y))) := by
        rw [Nat.zero_add, Nat.mul_one]; exact e1
      have e3 : D.sure.length = (D.sure.set k (List.set (D.sure[k] : Blk) q (old ^^^ y))).length := by simp
      rw [e2, e, e3]
      (refine CQ.shutL (disk_eq p ({ D with sure := D.sure.set k (List.set (D.sure[k] : Blk) q (old ^^^ y)) })) (sb, sc, la, lc) trivial (by repeat (first | exact Sel.nil _ | (apply Sel.cons; (· repeat (first | exact .head _ | apply Pick.tail | apply Upd.tail))))) ?_)
      ((apply CQ.end1; (· rfl); (· exact .tmp rfl)); (· exact ⟨rfl, rfl⟩); (· repeat (first | exact Sel.nil _ | (apply Sel.cons; (· repeat (first | exact .head _ | apply Pick.tail | apply Upd.tail))))))
  · have e : D.rot n at_ y = (D.there n, D) := by simp [DS.rot, h0]
    repeat (first | refine CX.psA ?_ | refine CX.nil ?_ | refine CQ.thenN ?_ | refine CQ.thenR ?_ | refine CQ.thenX ?_ | refine CQ.blockN ?_ | refine CQ.blockR ?_ | refine CQ.blockX ?_ | refine CQ.blockYA ?_ | refine CC.seq ?_ | refine CC.block ?_ | refine CC.region ?_ | refine CC.skip ?_ | refine CC.ret ?_ | refine CC.exit ?_ | refine CC.condTA ?_ | refine CC.condFA ?_ | refine CC.condDTA ?_ | refine CC.condDFA ?_ | refine CX.storeA ?_ | refine CX.skipA ?_)
    rw [e]
    ((apply CQ.end1; (· rfl); (· exact .tmp rfl)); (· exact ⟨rfl, rfl⟩); (· repeat (first | exact Sel.nil _ | (apply Sel.cons; (· repeat (first | exact .head _ | apply Pick.tail | apply Upd.tail))))))
theorem copy_c (p : Nat) (D : DS) {N : Nat} (h : D.wf N) (hN : N < 1000000) : Ctr Try.prog 47 [.pointer (some ⟨p, 0, none⟩)] [disk p D] (fun _ => True) (fun v M => ∃ q, v = .pointer (some ⟨q, 0, none⟩) ∧ M = [disk p D, disk q D]) := by
  have hlo := h.loose
  have hs0 := h.lo
  have hs1 := h.hi
  refine Ctr.intro Try.func47 rfl Try.ntmps47 rfl fun x w hp => ?_
  repeat (first | refine CX.psA ?_ | refine CX.nil ?_ | refine CQ.thenN ?_ | refine CQ.thenR ?_ | refine CQ.thenX ?_ | refine CQ.blockN ?_ | refine CQ.blockR ?_ | refine CQ.blockX ?_ | refine CQ.blockYA ?_ | refine CC.seq ?_ | refine CC.block ?_ | refine CC.region ?_ | refine CC.skip ?_ | refine CC.ret ?_ | refine CC.exit ?_ | refine CC.condTA ?_ | refine CC.condFA ?_ | refine CC.condDTA ?_ | refine CC.condDFA ?_ | refine CX.storeA ?_ | refine CX.skipA ?_)
  refine CX.callA (none_c p D) ?_
  rintro _ _ ⟨rfl, rfl⟩
  (refine CX.openL (disk_eq p _) (by repeat (first | exact .head _ | apply Pick.tail | apply Upd.tail)) ?_; rintro ⟨sb, sc, la, lc⟩ -)
  repeat (first | refine CX.psA ?_ | refine CX.nil ?_ | refine CQ.thenN ?_ | refine CQ.thenR ?_ | refine CQ.thenX ?_ | refine CQ.blockN ?_ | refine CQ.blockR ?_ | refine CQ.blockX ?_ | refine CQ.blockYA ?_ | refine CC.seq ?_ | refine CC.block ?_ | refine CC.region ?_ | refine CC.skip ?_ | refine CC.ret ?_ | refine CC.exit ?_ | refine CC.condTA ?_ | refine CC.condFA ?_ | refine CC.condDTA ?_ | refine CC.condDFA ?_ | refine CX.storeA ?_ | refine CX.skipA ?_)
  (apply CX.ps; (· apply PS.loadG (vs := [.slice (some ⟨sb, 0, none⟩) D.sure.length sc, .slice la D.loose.length lc, .int .i64 D.left, .int .i64 (D.steps : Int), .bool D.dark]); (· rfl); (· rfl); (· exact CellsAt.all (by repeat (first | exact .head _ | apply Pick.tail | apply Upd.tail))); (· rfl)))
  (refine CX.allocA ?_; intro q)
  (apply CX.storeAll (cs := [.slice none 0 0, .slice none 0 0, .int .i64 0, .int .i64 0, .bool false]); (· rfl); (· rfl); (· rfl); (· repeat (first | exact .head _ | apply Pick.tail | apply Upd.tail)); (· rfl); (· rfl); (· intro u hu; simp at hu; rcases hu with rfl | rfl | rfl | rfl | rfl <;> rfl))
  repeat (first | refine CX.psA ?_ | refine CX.nil ?_ | refine CQ.thenN ?_ | refine CQ.thenR ?_ | refine CQ.thenX ?_ | refine CQ.blockN ?_ | refine CQ.blockR ?_ | refine CQ.blockX ?_ | refine CQ.blockYA ?_ | refine CC.seq ?_ | refine CC.block ?_ | refine CC.region ?_ | refine CC.skip ?_ | refine CC.ret ?_ | refine CC.exit ?_ | refine CC.condTA ?_ | refine CC.condFA ?_ | refine CC.condDTA ?_ | refine CC.condDFA ?_ | refine CX.storeA ?_ | refine CX.skipA ?_)
  refine CC.draw [(0, 0), (1, 0), (2, 0), (3, 1), (5, 0), (6, 0), (7, 0), (8, 1), (4, 2), (9, 2), (10, 0), (11, 3), (12, 0), (13, 3)] mixed rfl (by kernel_rfl) (by kernel_rfl) [bk p 89 [.slice (some ⟨sb, 0, none⟩) D.sure.length sc, .slice la D.loose.length lc, .int .i64 D.left, .int .i64 (D.steps : Int), .bool D.dark]] ?_
  repeat (first | refine CH.pureA ?_ | refine CH.readA ?_ | refine CH.skA ?_ | refine CH.skCA ?_ | refine CH.nil ?_)
  refine CH.chain rfl fun K hK => ?_
  refine CX.callA (cloneB_c D.sure sb sc hs1 (by omega)) ?_
  rintro _ _ ⟨qb, qc, rfl, rfl⟩
  (refine CX.nil ?_; refine CQ.thenK ?_; apply hK; (· repeat (first | exact Sel.nil _ | (apply Sel.cons; (· repeat (first | exact .head _ | apply Pick.tail | apply Upd.tail))))); clear hK K)
  refine CH.chain rfl fun K hK => ?_
  refine CX.callA (cloneP_c D.loose la lc (by omega)) ?_
  rintro _ _ ⟨qd, qe, rfl, rfl⟩
  (refine CX.nil ?_; refine CQ.thenK ?_; apply hK; (· repeat (first | exact Sel.nil _ | (apply Sel.cons; (· repeat (first | exact .head _ | apply Pick.tail | apply Upd.tail))))); clear hK K)
  repeat (first | refine CH.pureA ?_ | refine CH.readA ?_ | refine CH.skA ?_ | refine CH.skCA ?_ | refine CH.nil ?_)
  refine CH.tail rfl rfl fun K hK => ?_
  refine CX.storeA ?_
  (refine CX.nil ?_; refine CQ.thenK ?_; apply hK; clear hK K)
  repeat (first | refine CH.pureA ?_ | refine CH.readA ?_ | refine CH.skA ?_ | refine CH.skCA ?_ | refine CH.nil ?_)
  refine CH.tail rfl rfl fun K hK => ?_
  refine CX.storeA ?_
  (refine CX.nil ?_; refine CQ.thenK ?_; apply hK; clear hK K)
  repeat (first | refine CH.pureA ?_ | refine CH.readA ?_ | refine CH.skA ?_ | refine CH.skCA ?_ | refine CH.nil ?_)
  repeat (first | refine CX.psA ?_ | refine CX.nil ?_ | refine CQ.thenN ?_ | refine CQ.thenR ?_ | refine CQ.thenX ?_ | refine CQ.blockN ?_ | refine CQ.blockR ?_ | refine CQ.blockX ?_ | refine CQ.blockYA ?_ | refine CC.seq ?_ | refine CC.block ?_ | refine CC.region ?_ | refine CC.skip ?_ | refine CC.ret ?_ | refine CC.exit ?_ | refine CC.condTA ?_ | refine CC.condFA ?_ | refine CC.condDTA ?_ | refine CC.condDFA ?_ | refine CX.storeA ?_ | refine CX.skipA ?_)
  refine CQ.shutL (disk_eq p D) (sb, sc, la, lc) trivial (by repeat (first | exact Sel.nil _ | (apply Sel.cons; (· repeat (first | exact .head _ | apply Pick.tail | apply Upd.tail))))) ?_
  refine CQ.shutL (disk_eq q D) (qb, qc, qd, qe) trivial (by repeat (first | exact Sel.nil _ | (apply Sel.cons; (· repeat (first | exact .head _ | apply Pick.tail | apply Upd.tail))))) ?_
  (apply CQ.end1; (· rfl); (· exact .tmp rfl))
  · exact ⟨q, rfl, rfl⟩
  · repeat (first | exact Sel.nil _ | (apply Sel.cons; (· repeat (first | exact .head _ | apply Pick.tail | apply Upd.tail))))
end Go.Proofs.Ytlckhaodecdbbaa
