/- Sealed blocks, the document's way (ref 05), and what the statements share (ref 00). -/
import Derived.Test.YtlckhaodecdbbaaSg
set_option linter.unusedVariables false
set_option linter.unusedSimpArgs false
namespace Go.Cx
theorem ins_step {B c : Blk} {f j : Nat} (hj : j < c.length) (h : f + c.length ≤ B.length) : (ins B f (c.take j)).set (f + j) c[j] = ins B f (c.take (j + 1)) := by
  have h1 : (c.take j).length = j := by simp; omega
  have h2 : (c.take (j + 1)).length = j + 1 := by simp; omega
  have h0 : (B.take f).length = f := by simp; omega
  unfold ins
  rw [List.set_append_right _ _ (by omega), h0, show f + j - f = j by omega, List.set_append_right _ _ (by omega), h1, Nat.sub_self, h2, List.drop_eq_getElem_cons (by omega), List.set_cons_zero, List.take_succ_eq_append_getElem hj, List.append_assoc]
  congr 3
theorem ins_zero {B : Blk} {f : Nat} : ins B f [] = B := by simp [ins]
theorem set_ins {B c : Blk} {f j : Nat} (hj : j < f) (h : f + c.length ≤ B.length) (y : UInt8) : (ins B f c).set j y = ins (B.set j y) f c := by
  unfold ins
  rw [List.set_append_left _ _ (by simp; omega), List.take_set, List.drop_set, if_pos (by omega)]
/-- The document's way to a sealed block. -/
def ends1 (n : Nat) : Blk := ins (ins zblk 0 (le 8 n)) 120 (le 8 (top - n))
def ends2 (n : Nat) (b : Blk) : Blk := ins (ends1 n) 8 b
theorem ends1_eq (n : Nat) : ends1 n = le 8 n ++ (List.replicate 108 0 ++ (List.replicate 4 0 ++ le 8 (top - n))) := by
  have h1 : ins zblk 0 (le 8 n) = seal1 n := rfl
  have h2 : seal1 n = (le 8 n ++ (List.replicate 108 0 ++ List.replicate 4 0)) ++ (List.replicate 8 0 ++ []) := by
    rw [seal1_eq, List.append_nil, List.append_assoc, List.append_assoc]; rfl
  have h3 := ins_mid (le 8 n ++ (List.replicate 108 0 ++ List.replicate 4 0)) (le 8 (top - n)) [] 8 120 (by simp) (by simp)
  rw [ends1, h1, h2, h3]; simp
theorem ends2_eq {n : Nat} {b : Blk} (h : b.length ≤ 108) : ends2 n b = frontB n b ++ (List.replicate 4 0 ++ le 8 (top - n)) := by
  rw [ends2, ends1_eq, ins_mid _ _ _ _ _ (by simp) h, frontB, padB]
  simp
theorem ends3_eq {n : Nat} {b : Blk} (h : b.length ≤ 108) : (ends2 n b).take 116 = frontB n b ∧ ins (ends2 n b) 116 (le 4 (crcM (frontB n b))) = sealB n b := by
  have e : (ends2 n b).take 116 = frontB n b := by
    rw [ends2_eq h, List.take_append_of_le_length (by rw [front_len h]; omega), List.take_of_length_le (by rw [front_len h]; omega)]
  refine ⟨e, ?_⟩
  have := ins_mid (frontB n b) (le 4 (crcM (frontB n b))) (le 8 (top - n)) 4 116 (front_len h) (by simp)
  rw [ends2_eq h, this, sealB]; simp
theorem ends_WB {n : Nat} {b : Blk} (h : b.length ≤ 108) : WB (ends1 n) ∧ WB (ends2 n b) := by
  refine ⟨?_, ?_⟩
  · rw [ends1_eq]; simp [WB]
  · rw [ends2_eq h]; simp [WB, front_len h]
theorem last_iff {B : Blk} (w : WB B) {m : Nat} (hm : m ≤ top) : le 8 m = B.drop 120 ↔ ofLe (B.drop 120) = m := by
  have w' : B.length = 128 := w
  constructor
  · intro h; rw [← h, ofLe8 hm]
  · intro h; rw [← h]; have := le_ofLe (B.drop 120); rwa [show (B.drop 120).length = 8 by simp; omega] at this
theorem getN_at {B : Blk} {p k : Nat} (hk : k = 1 ∨ k = 2 ∨ k = 4 ∨ k = 8) (h : p + k ≤ B.length) : getN B (p : Int) (k : Int) = (ofLe ((B.drop p).take k), 0) := by
  unfold getN
  rw [if_neg (by unfold okSize; omega), if_neg (by omega)]
  simp
theorem sum_zero {n m : Nat} (hn : n < 18446744073709551616) (hm : m < 18446744073709551616) : (n + m) % 2 ^ IntKind.u64.bits = 0 ∧ n = 0 ↔ n = 0 ∧ m = 0 := by
  simp only [IntKind.bits]; omega
end Go.Cx
namespace Go.Proofs.Ytlckhaodecdbbaa
open Go.Cx
attribute [local irreducible] Go.Cx.CX Go.Cx.CC Go.Cx.CQ Go.Cx.PS Go.Cx.Ctr Go.Cx.CH
set_option maxRecDepth 10000
theorem ends_c (n : Nat) (hn : n ≤ top) : Ctr Try.prog 95 [.int .u64 (n : Int)] [] (fun _ => True)
    (fun v M => ∃ b c b' c', v = .tuple #[.slice (some ⟨b, 0, none⟩) 8 c, .slice (some ⟨b', 0, none⟩) 8 c'] ∧ M = [own 5 1 (some ⟨b', 0, none⟩) 8 c' (cb (le 8 (top - n))), own 5 1 (some ⟨b, 0, none⟩) 8 c (cb (le 8 n))]) := by
  have e : (18446744073709551615 : Int) - (n : Int) = ((top - n : Nat) : Int) := by simp only [top] at *; omega
  refine Ctr.intro Try.func95 rfl Try.ntmps95 rfl fun x w hp => ?_
  repeat (first | refine CX.psA ?_ | refine CX.nil ?_ | refine CQ.thenN ?_ | refine CQ.thenR ?_ | refine CQ.thenX ?_ | refine CQ.blockN ?_ | refine CQ.blockR ?_ | refine CQ.blockX ?_ | refine CQ.blockYA ?_ | refine CC.seq ?_ | refine CC.block ?_ | refine CC.region ?_ | refine CC.skip ?_ | refine CC.ret ?_ | refine CC.exit ?_ | refine CC.condTA ?_ | refine CC.condFA ?_ | refine CC.condDTA ?_ | refine CC.condDFA ?_ | refine CX.storeA ?_ | refine CX.skipA ?_)
  refine CX.callA (rput_c n 8 (by omega) (by simp only [top] at hn; omega)) ?_
  rintro _ _ ⟨b, c, rfl, rfl⟩
  have h0 : (n : Int) ≤ 18446744073709551615 := by simp only [top] at hn; omega
  repeat (first | refine CX.psA ?_ | refine CX.nil ?_ | refine CQ.thenN ?_ | refine CQ.thenR ?_ | refine CQ.thenX ?_ | refine CQ.blockN ?_ | refine CQ.blockR ?_ | refine CQ.blockX ?_ | refine CQ.blockYA ?_ | refine CC.seq ?_ | refine CC.block ?_ | refine CC.region ?_ | refine CC.skip ?_ | refine CC.ret ?_ | refine CC.exit ?_ | refine CC.condTA ?_ | refine CC.condFA ?_ | refine CC.condDTA ?_ | refine CC.condDFA ?_ | refine CX.storeA ?_ | refine CX.skipA ?_)
  rw [e]
  refine CX.callA (rput_c (top - n) 8 (by omega) (by simp only [top]; omega)) ?_
  rintro _ _ ⟨b', c', rfl, rfl⟩
  repeat (first | refine CX.psA ?_ | refine CX.nil ?_ | refine CQ.thenN ?_ | refine CQ.thenR ?_ | refine CQ.thenX ?_ | refine CQ.blockN ?_ | refine CQ.blockR ?_ | refine CQ.blockX ?_ | refine CQ.blockYA ?_ | refine CC.seq ?_ | refine CC.block ?_ | refine CC.region ?_ | refine CC.skip ?_ | refine CC.ret ?_ | refine CC.exit ?_ | refine CC.condTA ?_ | refine CC.condFA ?_ | refine CC.condDTA ?_ | refine CC.condDFA ?_ | refine CX.storeA ?_ | refine CX.skipA ?_)
  (apply CQ.end2; (· rfl); (· exact .tmp rfl); (· exact .tmp rfl))
  · exact ⟨b, c, b', c', rfl, rfl⟩
  · repeat (first | exact Sel.nil _ | (apply Sel.cons; (· repeat (first | exact .head _ | apply Pick.tail | apply Upd.tail))))
theorem r5put_c (n : Nat) (hn : n ≤ top) (body : Blk) (hb : body.length ≤ 9223372036854775807) (a : Option Addr) (cap : Nat) : Ctr Try.prog 35 [.int .u64 (n : Int), .slice a body.length cap] [] (fun x => rdx a body.length (cb body) x)
    (fun v M => v = .tuple #[.agg (cb (putM n body).1).toArray, .int .i64 (putM n body).2] ∧ M = []) := by
  refine Ctr.intro Try.func35 rfl Try.ntmps35 rfl fun x w hp => ?_
  repeat (first | refine CX.psA ?_ | refine CX.nil ?_ | refine CQ.thenN ?_ | refine CQ.thenR ?_ | refine CQ.thenX ?_ | refine CQ.blockN ?_ | refine CQ.blockR ?_ | refine CQ.blockX ?_ | refine CQ.blockYA ?_ | refine CC.seq ?_ | refine CC.block ?_ | refine CC.region ?_ | refine CC.skip ?_ | refine CC.ret ?_ | refine CC.exit ?_ | refine CC.condTA ?_ | refine CC.condFA ?_ | refine CC.condDTA ?_ | refine CC.condDFA ?_ | refine CX.storeA ?_ | refine CX.skipA ?_)
  (refine CX.allocZ (cb zblk) ?_; intro r)
  repeat (first | refine CX.psA ?_ | refine CX.nil ?_ | refine CQ.thenN ?_ | refine CQ.thenR ?_ | refine CQ.thenX ?_ | refine CQ.blockN ?_ | refine CQ.blockR ?_ | refine CQ.blockX ?_ | refine CQ.blockYA ?_ | refine CC.seq ?_ | refine CC.block ?_ | refine CC.region ?_ | refine CC.skip ?_ | refine CC.ret ?_ | refine CC.exit ?_ | refine CC.condTA ?_ | refine CC.condFA ?_ | refine CC.condDTA ?_ | refine CC.condDFA ?_ | refine CX.storeA ?_ | refine CX.skipA ?_)
  (refine CX.allocZ (cb zblk) ?_; intro s)
  repeat (first | refine CX.psA ?_ | refine CX.nil ?_ | refine CQ.thenN ?_ | refine CQ.thenR ?_ | refine CQ.thenX ?_ | refine CQ.blockN ?_ | refine CQ.blockR ?_ | refine CQ.blockX ?_ | refine CQ.blockYA ?_ | refine CC.seq ?_ | refine CC.block ?_ | refine CC.region ?_ | refine CC.skip ?_ | refine CC.ret ?_ | refine CC.exit ?_ | refine CC.condTA ?_ | refine CC.condFA ?_ | refine CC.condDTA ?_ | refine CC.condDFA ?_ | refine CX.storeA ?_ | refine CX.skipA ?_)
  by_cases h1 : n = 0
  · have e : putM n body = (zblk, 2) := by unfold putM; rw [if_pos h1]
    rw [e]
    repeat (first | refine CX.psA ?_ | refine CX.nil ?_ | refine CQ.thenN ?_ | refine CQ.thenR ?_ | refine CQ.thenX ?_ | refine CQ.blockN ?_ | refine CQ.blockR ?_ | refine CQ.blockX ?_ | refine CQ.blockYA ?_ | refine CC.seq ?_ | refine CC.block ?_ | refine CC.region ?_ | refine CC.skip ?_ | refine CC.ret ?_ | refine CC.exit ?_ | refine CC.condTA ?_ | refine CC.condFA ?_ | refine CC.condDTA ?_ | refine CC.condDFA ?_ | refine CX.storeA ?_ | refine CX.skipA ?_)
    ((apply CX.ps; (· apply PS.loadG (vs := cb (zblk)); (· rfl); (· rfl); (· exact CellsAt.all (by repeat (first | exact .head _ | apply Pick.tail | apply Upd.tail))); (· exact WB_z.len))))
    (apply CX.storeAll; (· rfl); (· rfl); (· rfl); (· repeat (first | exact .head _ | apply Pick.tail | apply Upd.tail)); (· exact WB_z.len); (· exact WB_z.len); (· exact one_cb _))
    repeat (first | refine CX.psA ?_ | refine CX.nil ?_ | refine CQ.thenN ?_ | refine CQ.thenR ?_ | refine CQ.thenX ?_ | refine CQ.blockN ?_ | refine CQ.blockR ?_ | refine CQ.blockX ?_ | refine CQ.blockYA ?_ | refine CC.seq ?_ | refine CC.block ?_ | refine CC.region ?_ | refine CC.skip ?_ | refine CC.ret ?_ | refine CC.exit ?_ | refine CC.condTA ?_ | refine CC.condFA ?_ | refine CC.condDTA ?_ | refine CC.condDFA ?_ | refine CX.storeA ?_ | refine CX.skipA ?_)
    ((apply CQ.end2; (· rfl); (· exact .cells inferInstance rfl (CellsAt.all (by repeat (first | exact .head _ | apply Pick.tail | apply Upd.tail))) (WB_z.len)); (· exact .tmp rfl)); (· exact ⟨rfl, rfl⟩); (· repeat (first | exact Sel.nil _ | (apply Sel.cons; (· repeat (first | exact .head _ | apply Pick.tail | apply Upd.tail))))))
  by_cases h2 : 108 < body.length
  · have e : putM n body = (zblk, 3) := by unfold putM; rw [if_neg h1, if_pos h2]
    rw [e]
    repeat (first | refine CX.psA ?_ | refine CX.nil ?_ | refine CQ.thenN ?_ | refine CQ.thenR ?_ | refine CQ.thenX ?_ | refine CQ.blockN ?_ | refine CQ.blockR ?_ | refine CQ.blockX ?_ | refine CQ.blockYA ?_ | refine CC.seq ?_ | refine CC.block ?_ | refine CC.region ?_ | refine CC.skip ?_ | refine CC.ret ?_ | refine CC.exit ?_ | refine CC.condTA ?_ | refine CC.condFA ?_ | refine CC.condDTA ?_ | refine CC.condDFA ?_ | refine CX.storeA ?_ | refine CX.skipA ?_)
    ((apply CX.ps; (· apply PS.loadG (vs := cb (zblk)); (· rfl); (· rfl); (· exact CellsAt.all (by repeat (first | exact .head _ | apply Pick.tail | apply Upd.tail))); (· exact WB_z.len))))
    (apply CX.storeAll; (· rfl); (· rfl); (· rfl); (· repeat (first | exact .head _ | apply Pick.tail | apply Upd.tail)); (· exact WB_z.len); (· exact WB_z.len); (· exact one_cb _))
    repeat (first | refine CX.psA ?_ | refine CX.nil ?_ | refine CQ.thenN ?_ | refine CQ.thenR ?_ | refine CQ.thenX ?_ | refine CQ.blockN ?_ | refine CQ.blockR ?_ | refine CQ.blockX ?_ | refine CQ.blockYA ?_ | refine CC.seq ?_ | refine CC.block ?_ | refine CC.region ?_ | refine CC.skip ?_ | refine CC.ret ?_ | refine CC.exit ?_ | refine CC.condTA ?_ | refine CC.condFA ?_ | refine CC.condDTA ?_ | refine CC.condDFA ?_ | refine CX.storeA ?_ | refine CX.skipA ?_)
    ((apply CQ.end2; (· rfl); (· exact .cells inferInstance rfl (CellsAt.all (by repeat (first | exact .head _ | apply Pick.tail | apply Upd.tail))) (WB_z.len)); (· exact .tmp rfl)); (· exact ⟨rfl, rfl⟩); (· repeat (first | exact Sel.nil _ | (apply Sel.cons; (· repeat (first | exact .head _ | apply Pick.tail | apply Upd.tail))))))
  have hl : body.length ≤ 108 := by omega
  have e : putM n body = (sealB n body, 0) := by unfold putM; rw [if_neg h1, if_neg h2]
  rw [e]
  obtain ⟨w1, w2⟩ := ends_WB (n := n) hl
  obtain ⟨e3, e4⟩ := ends3_eq (n := n) hl
  have w4 := sealB_WB (n := n) hl
  repeat (first | refine CX.psA ?_ | refine CX.nil ?_ | refine CQ.thenN ?_ | refine CQ.thenR ?_ | refine CQ.thenX ?_ | refine CQ.blockN ?_ | refine CQ.blockR ?_ | refine CQ.blockX ?_ | refine CQ.blockYA ?_ | refine CC.seq ?_ | refine CC.block ?_ | refine CC.region ?_ | refine CC.skip ?_ | refine CC.ret ?_ | refine CC.exit ?_ | refine CC.condTA ?_ | refine CC.condFA ?_ | refine CC.condDTA ?_ | refine CC.condDFA ?_ | refine CX.storeA ?_ | refine CX.skipA ?_)
  refine CX.callA (ends_c n hn) ?_
  rintro _ _ ⟨f, fc, g, gc, rfl, rfl⟩
  repeat (first | refine CX.psA ?_ | refine CX.nil ?_ | refine CQ.thenN ?_ | refine CQ.thenR ?_ | refine CQ.thenX ?_ | refine CQ.blockN ?_ | refine CQ.blockR ?_ | refine CQ.blockX ?_ | refine CQ.blockYA ?_ | refine CC.seq ?_ | refine CC.block ?_ | refine CC.region ?_ | refine CC.skip ?_ | refine CC.ret ?_ | refine CC.exit ?_ | refine CC.condTA ?_ | refine CC.condFA ?_ | refine CC.condDTA ?_ | refine CC.condDFA ?_ | refine CX.storeA ?_ | refine CX.skipA ?_)
  refine CC.loop (X := Nat) (fun i => [(9, .int .i64 (i : Int)), (4, .pointer (some ⟨r, 0, none⟩)), (6, .pointer (some ⟨s, 0, none⟩)), (7, .slice (some ⟨f, 0, none⟩) 8 fc), (8, .slice (some ⟨g, 0, none⟩) 8 gc), (1, .slice a body.length cap)])
    (fun i => [own 5 1 (some ⟨f, 0, none⟩) 8 fc (cb (le 8 n)), own 5 1 (some ⟨g, 0, none⟩) 8 gc (cb (le 8 (top - n))), bk r 29 (cb zblk), bk s 29 (cb (ins (ins zblk 0 ((le 8 n).take i)) 120 ((le 8 (top - n)).take i))), exact x])
    (fun i => i ≤ 8) (fun i => 8 - i) 0 (Nat.zero_le _) ⟨rfl, rfl, rfl, rfl, rfl, rfl, trivial⟩ (by simp only [List.take_zero, ins_zero]; repeat (first | exact Sel.nil _ | (apply Sel.cons; (· repeat (first | exact .head _ | apply Pick.tail | apply Upd.tail))))) ?_
  intro i hi
  by_cases h3 : i < 8
  · have k1 : i < (le 8 n).length := by simpa using h3
    have k2 : i < (le 8 (top - n)).length := by simpa using h3
    have l0 : (ins zblk 0 ((le 8 n).take i)).length = 128 := by rw [ins_len] <;> simp [zblk]; omega
    have l1 : (ins (ins zblk 0 ((le 8 n).take i)) 120 ((le 8 (top - n)).take i)).length = 128 := by rw [ins_len, l0]; rw [l0]; simp; omega
    have s1 : (ins (ins zblk 0 ((le 8 n).take i)) 120 ((le 8 (top - n)).take i)).set i ((le 8 n)[i]'k1) = ins (ins zblk 0 ((le 8 n).take (i + 1))) 120 ((le 8 (top - n)).take i) := by
      rw [set_ins (by omega) (by rw [l0]; simp; omega)]
      have := ins_step (B := zblk) (c := le 8 n) (f := 0) k1 (by simp [zblk])
      rw [Nat.zero_add] at this; rw [this]
    have l2 : (ins zblk 0 ((le 8 n).take (i + 1))).length = 128 := by rw [ins_len] <;> simp [zblk]; omega
    have s2 := ins_step (B := ins zblk 0 ((le 8 n).take (i + 1))) (c := le 8 (top - n)) (f := 120) k2 (by rw [l2]; simp)
    have l3 : (ins (ins zblk 0 ((le 8 n).take (i + 1))) 120 ((le 8 (top - n)).take i)).length = 128 := by rw [ins_len, l2]; rw [l2]; simp; omega
    repeat (first | refine CX.psA ?_ | refine CX.nil ?_ | refine CQ.thenN ?_ | refine CQ.thenR ?_ | refine CQ.thenX ?_ | refine CQ.blockN ?_ | refine CQ.blockR ?_ | refine CQ.blockX ?_ | refine CQ.blockYA ?_ | refine CC.seq ?_ | refine CC.block ?_ | refine CC.region ?_ | refine CC.skip ?_ | refine CC.ret ?_ | refine CC.exit ?_ | refine CC.condTA ?_ | refine CC.condFA ?_ | refine CC.condDTA ?_ | refine CC.condDFA ?_ | refine CX.storeA ?_ | refine CX.skipA ?_)
    (refine CX.index0 (i) ?_ ?_; (· exact h3))
    (refine CX.loadA _ (CellAt.ownB (j := i) (by repeat (first | exact .head _ | apply Pick.tail | apply Upd.tail)) k1) ?_)
    refine CX.ps (PS.indexArr (j := i) rfl rfl rfl rfl (by omega)) ?_
    (refine CX.storeBB (i) ((le 8 n)[i]'k1) ?_ ?_; (· omega))
    rw [s1]
    repeat (first | refine CX.psA ?_ | refine CX.nil ?_ | refine CQ.thenN ?_ | refine CQ.thenR ?_ | refine CQ.thenX ?_ | refine CQ.blockN ?_ | refine CQ.blockR ?_ | refine CQ.blockX ?_ | refine CQ.blockYA ?_ | refine CC.seq ?_ | refine CC.block ?_ | refine CC.region ?_ | refine CC.skip ?_ | refine CC.ret ?_ | refine CC.exit ?_ | refine CC.condTA ?_ | refine CC.condFA ?_ | refine CC.condDTA ?_ | refine CC.condDFA ?_ | refine CX.storeA ?_ | refine CX.skipA ?_)
    (refine CX.index0 (i) ?_ ?_; (· exact h3))
    (refine CX.loadA _ (CellAt.ownB (j := i) (by repeat (first | exact .head _ | apply Pick.tail | apply Upd.tail)) k2) ?_)
    refine CX.ps (PS.indexArr (j := 120 + i) rfl rfl rfl (by omega) (by omega)) ?_
    (refine CX.storeBB (120 + i) ((le 8 (top - n))[i]'k2) ?_ ?_; (· omega))
    rw [s2]
    repeat (first | refine CX.psA ?_ | refine CX.nil ?_ | refine CQ.thenN ?_ | refine CQ.thenR ?_ | refine CQ.thenX ?_ | refine CQ.blockN ?_ | refine CQ.blockR ?_ | refine CQ.blockX ?_ | refine CQ.blockYA ?_ | refine CC.seq ?_ | refine CC.block ?_ | refine CC.region ?_ | refine CC.skip ?_ | refine CC.ret ?_ | refine CC.exit ?_ | refine CC.condTA ?_ | refine CC.condFA ?_ | refine CC.condDTA ?_ | refine CC.condDFA ?_ | refine CX.storeA ?_ | refine CX.skipA ?_)
    exact CQ.round (i + 1) (by omega) (by omega) ⟨eqI (by omega), rfl, rfl, rfl, rfl, rfl, trivial⟩ (by repeat (first | exact Sel.nil _ | (apply Sel.cons; (· repeat (first | exact .head _ | apply Pick.tail | apply Upd.tail)))))
  obtain rfl : i = 8 := by omega
  rw [List.take_of_length_le (by simp), List.take_of_length_le (by simp), show ins (ins zblk 0 (le 8 n)) 120 (le 8 (top - n)) = ends1 n from rfl]
  repeat (first | refine CX.psA ?_ | refine CX.nil ?_ | refine CQ.thenN ?_ | refine CQ.thenR ?_ | refine CQ.thenX ?_ | refine CQ.blockN ?_ | refine CQ.blockR ?_ | refine CQ.blockX ?_ | refine CQ.blockYA ?_ | refine CC.seq ?_ | refine CC.block ?_ | refine CC.region ?_ | refine CC.skip ?_ | refine CC.ret ?_ | refine CC.exit ?_ | refine CC.condTA ?_ | refine CC.condFA ?_ | refine CC.condDTA ?_ | refine CC.condDFA ?_ | refine CX.storeA ?_ | refine CX.skipA ?_)
  have w1' : (ends1 n).length = 128 := w1
  refine CC.loop (X := Nat) (fun i => [(10, .int .i64 (i : Int)), (4, .pointer (some ⟨r, 0, none⟩)), (6, .pointer (some ⟨s, 0, none⟩)), (1, .slice a body.length cap)])
    (fun i => [bk r 29 (cb zblk), bk s 29 (cb (ins (ends1 n) 8 (body.take i))), exact x])
    (fun i => i ≤ body.length) (fun i => body.length - i) 0 (Nat.zero_le _) ⟨rfl, rfl, rfl, rfl, trivial⟩ (by simp only [List.take_zero, ins_zero]; repeat (first | exact Sel.nil _ | (apply Sel.cons; (· repeat (first | exact .head _ | apply Pick.tail | apply Upd.tail))))) ?_
  intro i hi
  by_cases h3 : i < body.length
  · obtain ⟨gg, off, rfl⟩ := rdx_some hp (by omega)
    have s1 := ins_step (B := ends1 n) (c := body) (f := 8) h3 (by omega)
    have l1 : (ins (ends1 n) 8 (body.take i)).length = 128 := by rw [ins_len, w1']; rw [w1']; simp; omega
    repeat (first | refine CX.psA ?_ | refine CX.nil ?_ | refine CQ.thenN ?_ | refine CQ.thenR ?_ | refine CQ.thenX ?_ | refine CQ.blockN ?_ | refine CQ.blockR ?_ | refine CQ.blockX ?_ | refine CQ.blockYA ?_ | refine CC.seq ?_ | refine CC.block ?_ | refine CC.region ?_ | refine CC.skip ?_ | refine CC.ret ?_ | refine CC.exit ?_ | refine CC.condTA ?_ | refine CC.condFA ?_ | refine CC.condDTA ?_ | refine CC.condDFA ?_ | refine CX.storeA ?_ | refine CX.skipA ?_)
    (refine CX.indexA (i) ?_ ?_; (· exact h3))
    (refine CX.loadA _ (CellAt.rd (j := i) (by repeat (first | exact .head _ | apply Pick.tail | apply Upd.tail)) hp rfl h3) ?_)
    refine CX.ps (PS.indexArr (j := 8 + i) rfl rfl rfl (by omega) (by omega)) ?_
    (refine CX.storeBB (8 + i) (body[i]) ?_ ?_; (· omega))
    rw [s1]
    repeat (first | refine CX.psA ?_ | refine CX.nil ?_ | refine CQ.thenN ?_ | refine CQ.thenR ?_ | refine CQ.thenX ?_ | refine CQ.blockN ?_ | refine CQ.blockR ?_ | refine CQ.blockX ?_ | refine CQ.blockYA ?_ | refine CC.seq ?_ | refine CC.block ?_ | refine CC.region ?_ | refine CC.skip ?_ | refine CC.ret ?_ | refine CC.exit ?_ | refine CC.condTA ?_ | refine CC.condFA ?_ | refine CC.condDTA ?_ | refine CC.condDFA ?_ | refine CX.storeA ?_ | refine CX.skipA ?_)
    exact CQ.round (i + 1) (by omega) (by omega) ⟨eqI (by omega), rfl, rfl, rfl, trivial⟩ (by repeat (first | exact Sel.nil _ | (apply Sel.cons; (· repeat (first | exact .head _ | apply Pick.tail | apply Upd.tail)))))
  obtain rfl : i = body.length := by omega
  rw [List.take_length, show ins (ends1 n) 8 body = ends2 n body from rfl]
  have w2' : (ends2 n body).length = 128 := w2
  have hl2 : ((ends2 n body).take 116).length = 116 := by simp; omega
  have hlt := crc_lt (frontB n body)
  repeat (first | refine CX.psA ?_ | refine CX.nil ?_ | refine CQ.thenN ?_ | refine CQ.thenR ?_ | refine CQ.thenX ?_ | refine CQ.blockN ?_ | refine CQ.blockR ?_ | refine CQ.blockX ?_ | refine CQ.blockYA ?_ | refine CC.seq ?_ | refine CC.block ?_ | refine CC.region ?_ | refine CC.skip ?_ | refine CC.ret ?_ | refine CC.exit ?_ | refine CC.condTA ?_ | refine CC.condFA ?_ | refine CC.condDTA ?_ | refine CC.condDFA ?_ | refine CX.storeA ?_ | refine CX.skipA ?_)
  refine CX.ps (PS.sliceArrHi (h := 116) rfl rfl rfl rfl (by omega)) ?_
  have cc := rof_c ((ends2 n body).take 116) (by omega) (some ⟨s, 0, none⟩) 128 (by omega)
  rw [hl2] at cc
  refine CX.callA (cc) ?_ (hpre := by exact fun y hy => by have := rdx_bk (t := 29) (b := s) (B := ends2 n body) (by repeat (first | exact .head _ | apply Pick.tail | apply Upd.tail)) 0 116 (by omega) y hy; rwa [List.drop_zero] at this)
  clear cc
  rintro _ _ ⟨rfl, rfl⟩
  rw [e3]
  repeat (first | refine CX.psA ?_ | refine CX.nil ?_ | refine CQ.thenN ?_ | refine CQ.thenR ?_ | refine CQ.thenX ?_ | refine CQ.blockN ?_ | refine CQ.blockR ?_ | refine CQ.blockX ?_ | refine CQ.blockYA ?_ | refine CC.seq ?_ | refine CC.block ?_ | refine CC.region ?_ | refine CC.skip ?_ | refine CC.ret ?_ | refine CC.exit ?_ | refine CC.condTA ?_ | refine CC.condFA ?_ | refine CC.condDTA ?_ | refine CC.condDFA ?_ | refine CX.storeA ?_ | refine CX.skipA ?_)
  refine CX.callA (rput_c (crcM (frontB n body)) 4 (by omega) hlt) ?_
  rintro _ _ ⟨q, qc, rfl, rfl⟩
  repeat (first | refine CX.psA ?_ | refine CX.nil ?_ | refine CQ.thenN ?_ | refine CQ.thenR ?_ | refine CQ.thenX ?_ | refine CQ.blockN ?_ | refine CQ.blockR ?_ | refine CQ.blockX ?_ | refine CQ.blockYA ?_ | refine CC.seq ?_ | refine CC.block ?_ | refine CC.region ?_ | refine CC.skip ?_ | refine CC.ret ?_ | refine CC.exit ?_ | refine CC.condTA ?_ | refine CC.condFA ?_ | refine CC.condDTA ?_ | refine CC.condDFA ?_ | refine CX.storeA ?_ | refine CX.skipA ?_)
  refine CC.loop (X := Nat) (fun i => [(13, .int .i64 (i : Int)), (4, .pointer (some ⟨r, 0, none⟩)), (6, .pointer (some ⟨s, 0, none⟩)), (11, .slice (some ⟨q, 0, none⟩) 4 qc)])
    (fun i => [own 5 1 (some ⟨q, 0, none⟩) 4 qc (cb (le 4 (crcM (frontB n body)))), bk r 29 (cb zblk), bk s 29 (cb (ins (ends2 n body) 116 ((le 4 (crcM (frontB n body))).take i))), exact x])
    (fun i => i ≤ 4) (fun i => 4 - i) 0 (Nat.zero_le _) ⟨rfl, rfl, rfl, rfl, trivial⟩ (by simp only [List.take_zero, ins_zero]; repeat (first | exact Sel.nil _ | (apply Sel.cons; (· repeat (first | exact .head _ | apply Pick.tail | apply Upd.tail))))) ?_
  intro i hi
  by_cases h3 : i < 4
  · have k1 : i < (le 4 (crcM (frontB n body))).length := by simpa using h3
    have s1 := ins_step (B := ends2 n body) (c := le 4 (crcM (frontB n body))) (f := 116) k1 (by simp; omega)
    have l1 : (ins (ends2 n body) 116 ((le 4 (crcM (frontB n body))).take i)).length = 128 := by rw [ins_len, w2']; rw [w2']; simp; omega
    repeat (first | refine CX.psA ?_ | refine CX.nil ?_ | refine CQ.thenN ?_ | refine CQ.thenR ?_ | refine CQ.thenX ?_ | refine CQ.blockN ?_ | refine CQ.blockR ?_ | refine CQ.blockX ?_ | refine CQ.blockYA ?_ | refine CC.seq ?_ | refine CC.block ?_ | refine CC.region ?_ | refine CC.skip ?_ | refine CC.ret ?_ | refine CC.exit ?_ | refine CC.condTA ?_ | refine CC.condFA ?_ | refine CC.condDTA ?_ | refine CC.condDFA ?_ | refine CX.storeA ?_ | refine CX.skipA ?_)
    (refine CX.index0 (i) ?_ ?_; (· exact h3))
    (refine CX.loadA _ (CellAt.ownB (j := i) (by repeat (first | exact .head _ | apply Pick.tail | apply Upd.tail)) k1) ?_)
    refine CX.ps (PS.indexArr (j := 116 + i) rfl rfl rfl (by omega) (by omega)) ?_
    (refine CX.storeBB (116 + i) ((le 4 (crcM (frontB n body)))[i]) ?_ ?_; (· omega))
    rw [s1]
    repeat (first | refine CX.psA ?_ | refine CX.nil ?_ | refine CQ.thenN ?_ | refine CQ.thenR ?_ | refine CQ.thenX ?_ | refine CQ.blockN ?_ | refine CQ.blockR ?_ | refine CQ.blockX ?_ | refine CQ.blockYA ?_ | refine CC.seq ?_ | refine CC.block ?_ | refine CC.region ?_ | refine CC.skip ?_ | refine CC.ret ?_ | refine CC.exit ?_ | refine CC.condTA ?_ | refine CC.condFA ?_ | refine CC.condDTA ?_ | refine CC.condDFA ?_ | refine CX.storeA ?_ | refine CX.skipA ?_)
    exact CQ.round (i + 1) (by omega) (by omega) ⟨eqI (by omega), rfl, rfl, rfl, trivial⟩ (by repeat (first | exact Sel.nil _ | (apply Sel.cons; (· repeat (first | exact .head _ | apply Pick.tail | apply Upd.tail)))))
  obtain rfl : i = 4 := by omega
  rw [List.take_of_length_le (by simp), e4]
  repeat (first | refine CX.psA ?_ | refine CX.nil ?_ | refine CQ.thenN ?_ | refine CQ.thenR ?_ | refine CQ.thenX ?_ | refine CQ.blockN ?_ | refine CQ.blockR ?_ | refine CQ.blockX ?_ | refine CQ.blockYA ?_ | refine CC.seq ?_ | refine CC.block ?_ | refine CC.region ?_ | refine CC.skip ?_ | refine CC.ret ?_ | refine CC.exit ?_ | refine CC.condTA ?_ | refine CC.condFA ?_ | refine CC.condDTA ?_ | refine CC.condDFA ?_ | refine CX.storeA ?_ | refine CX.skipA ?_)
  ((apply CX.ps; (· apply PS.loadG (vs := cb (sealB n body)); (· rfl); (· rfl); (· exact CellsAt.all (by repeat (first | exact .head _ | apply Pick.tail | apply Upd.tail))); (· exact w4.len))))
  (apply CX.storeAll; (· rfl); (· rfl); (· rfl); (· repeat (first | exact .head _ | apply Pick.tail | apply Upd.tail)); (· exact w4.len); (· exact WB_z.len); (· exact one_cb _))
  repeat (first | refine CX.psA ?_ | refine CX.nil ?_ | refine CQ.thenN ?_ | refine CQ.thenR ?_ | refine CQ.thenX ?_ | refine CQ.blockN ?_ | refine CQ.blockR ?_ | refine CQ.blockX ?_ | refine CQ.blockYA ?_ | refine CC.seq ?_ | refine CC.block ?_ | refine CC.region ?_ | refine CC.skip ?_ | refine CC.ret ?_ | refine CC.exit ?_ | refine CC.condTA ?_ | refine CC.condFA ?_ | refine CC.condDTA ?_ | refine CC.condDFA ?_ | refine CX.storeA ?_ | refine CX.skipA ?_)
  ((apply CQ.end2; (· rfl); (· exact .cells inferInstance rfl (CellsAt.all (by repeat (first | exact .head _ | apply Pick.tail | apply Upd.tail))) (w4.len)); (· exact .tmp rfl)); (· exact ⟨rfl, rfl⟩); (· repeat (first | exact Sel.nil _ | (apply Sel.cons; (· repeat (first | exact .head _ | apply Pick.tail | apply Upd.tail))))))
theorem r5get_c (B : Blk) (hB : WB B) : Ctr Try.prog 38 [.agg (cb B).toArray] [] (fun _ => True) (GotM B) := by
  have hB' : B.length = 128 := hB
  have hl8 := valid_top hB
  have g1 := getN_at (B := B) (p := 0) (k := 8) (by omega) (by omega)
  have g2 := getN_at (B := B) (p := 116) (k := 4) (by omega) (by omega)
  rw [List.drop_zero] at g1
  have h4 := ofLe_lt ((B.drop 116).take 4)
  rw [show ((B.drop 116).take 4).length = 4 by simp; omega] at h4
  have hcr := crc_lt (B.take 116)
  have li := last_iff hB (m := top - ofLe (B.take 8)) (by omega)
  have cut0 : ∀ b : Nat, cutAt (some ⟨b, 0, none⟩) 0 128 1 = some ⟨b, 0, none⟩ := fun b => by unfold cutAt; simp [addr_add]
  have cut120 : ∀ b : Nat, cutAt (some ⟨b, 0, none⟩) 120 128 1 = some ⟨b, 120, none⟩ := fun b => by unfold cutAt; simp [addr_add]
  refine Ctr.intro Try.func38 rfl Try.ntmps38 rfl fun x w hp => ?_
  repeat (first | refine CX.psA ?_ | refine CX.nil ?_ | refine CQ.thenN ?_ | refine CQ.thenR ?_ | refine CQ.thenX ?_ | refine CQ.blockN ?_ | refine CQ.blockR ?_ | refine CQ.blockX ?_ | refine CQ.blockYA ?_ | refine CC.seq ?_ | refine CC.block ?_ | refine CC.region ?_ | refine CC.skip ?_ | refine CC.ret ?_ | refine CC.exit ?_ | refine CC.condTA ?_ | refine CC.condFA ?_ | refine CC.condDTA ?_ | refine CC.condDFA ?_ | refine CX.storeA ?_ | refine CX.skipA ?_)
  (refine CX.boxA ?_; intro r)
  repeat (first | refine CX.psA ?_ | refine CX.nil ?_ | refine CQ.thenN ?_ | refine CQ.thenR ?_ | refine CQ.thenX ?_ | refine CQ.blockN ?_ | refine CQ.blockR ?_ | refine CQ.blockX ?_ | refine CQ.blockYA ?_ | refine CC.seq ?_ | refine CC.block ?_ | refine CC.region ?_ | refine CC.skip ?_ | refine CC.ret ?_ | refine CC.exit ?_ | refine CC.condTA ?_ | refine CC.condFA ?_ | refine CC.condDTA ?_ | refine CC.condDFA ?_ | refine CX.storeA ?_ | refine CX.skipA ?_)
  refine CX.ps (PS.sliceArr (l := 0) (h := 128) rfl rfl rfl rfl (.inl ⟨rfl, rfl⟩) (.inl ⟨rfl, rfl⟩) (by omega) (by omega)) ?_
  rw [cut0]
  have cc := rget_c B (some ⟨r, 0, none⟩) 128 0 8 (by omega) (by omega) (by omega)
  rw [hB', show getN B 0 8 = _ from g1] at cc
  refine CX.callA (cc) ?_ (hpre := by exact full_rdx hB (by repeat (first | exact .head _ | apply Pick.tail | apply Upd.tail)))
  clear cc
  rintro _ _ ⟨rfl, rfl⟩
  repeat (first | refine CX.psA ?_ | refine CX.nil ?_ | refine CQ.thenN ?_ | refine CQ.thenR ?_ | refine CQ.thenX ?_ | refine CQ.blockN ?_ | refine CQ.blockR ?_ | refine CQ.blockX ?_ | refine CQ.blockYA ?_ | refine CC.seq ?_ | refine CC.block ?_ | refine CC.region ?_ | refine CC.skip ?_ | refine CC.ret ?_ | refine CC.exit ?_ | refine CC.condTA ?_ | refine CC.condFA ?_ | refine CC.condDTA ?_ | refine CC.condDFA ?_ | refine CX.storeA ?_ | refine CX.skipA ?_)
  refine CX.callA (ends_c (ofLe (B.take 8)) hl8) ?_
  rintro _ _ ⟨f, fc, g, gc, rfl, rfl⟩
  repeat (first | refine CX.psA ?_ | refine CX.nil ?_ | refine CQ.thenN ?_ | refine CQ.thenR ?_ | refine CQ.thenX ?_ | refine CQ.blockN ?_ | refine CQ.blockR ?_ | refine CQ.blockX ?_ | refine CQ.blockYA ?_ | refine CC.seq ?_ | refine CC.block ?_ | refine CC.region ?_ | refine CC.skip ?_ | refine CC.ret ?_ | refine CC.exit ?_ | refine CC.condTA ?_ | refine CC.condFA ?_ | refine CC.condDTA ?_ | refine CC.condDFA ?_ | refine CX.storeA ?_ | refine CX.skipA ?_)
  by_cases h1 : ofLe (B.take 8) = 0
  · have e : getM B = (0, [], 5) := by unfold getM; rw [if_pos (.inl (by omega))]
    rw [h1]
    repeat (first | refine CX.psA ?_ | refine CX.nil ?_ | refine CQ.thenN ?_ | refine CQ.thenR ?_ | refine CQ.thenX ?_ | refine CQ.blockN ?_ | refine CQ.blockR ?_ | refine CQ.blockX ?_ | refine CQ.blockYA ?_ | refine CC.seq ?_ | refine CC.block ?_ | refine CC.region ?_ | refine CC.skip ?_ | refine CC.ret ?_ | refine CC.exit ?_ | refine CC.condTA ?_ | refine CC.condFA ?_ | refine CC.condDTA ?_ | refine CC.condDFA ?_ | refine CX.storeA ?_ | refine CX.skipA ?_)
    refine CC.draw [(0, 0), (1, 0), (2, 0), (3, 0), (4, 1), (5, 0), (6, 1), (7, 0), (8, 0)] mixed rfl (by kernel_rfl) (by kernel_rfl) [bk r 29 (cb B)] ?_
    repeat (first | refine CH.pureA ?_ | refine CH.readA ?_ | refine CH.skA ?_ | refine CH.skCA ?_ | refine CH.nil ?_)
    repeat (first | refine CX.psA ?_ | refine CX.nil ?_ | refine CQ.thenN ?_ | refine CQ.thenR ?_ | refine CQ.thenX ?_ | refine CQ.blockN ?_ | refine CQ.blockR ?_ | refine CQ.blockX ?_ | refine CQ.blockYA ?_ | refine CC.seq ?_ | refine CC.block ?_ | refine CC.region ?_ | refine CC.skip ?_ | refine CC.ret ?_ | refine CC.exit ?_ | refine CC.condTA ?_ | refine CC.condFA ?_ | refine CC.condDTA ?_ | refine CC.condDFA ?_ | refine CX.storeA ?_ | refine CX.skipA ?_)
    refine CQ.ownNil 5 1 ?_
    (apply CQ.end3; (· rfl); (· exact .tmp rfl); (· exact .tmp rfl); (· exact .tmp rfl))
    · exact (show GotM B _ [own 5 1 none 0 0 (cb [])] from ⟨none, 0, by rw [e]; rfl, by rw [e]; rfl⟩)
    · repeat (first | exact Sel.nil _ | (apply Sel.cons; (· repeat (first | exact .head _ | apply Pick.tail | apply Upd.tail))))
  refine CC.draw [(0, 0), (1, 0), (2, 0), (3, 0), (4, 1), (5, 0), (6, 1), (7, 0), (8, 0)] mixed rfl (by kernel_rfl) (by kernel_rfl) [bk r 29 (cb B), own 5 1 (some ⟨g, 0, none⟩) 8 gc (cb (le 8 (top - ofLe (B.take 8))))] ?_
  repeat (first | refine CH.pureA ?_ | refine CH.readA ?_ | refine CH.skA ?_ | refine CH.skCA ?_ | refine CH.nil ?_)
  refine CH.read rfl (PS.toStr (b := le 8 (top - ofLe (B.take 8))) rfl rfl (by simp) (rdx_own (by repeat (first | exact .head _ | apply Pick.tail | apply Upd.tail)) (by simp))) (by repeat (first | exact Sel.nil _ | (apply Sel.cons; (· repeat (first | exact .head _ | apply Pick.tail | apply Upd.tail))))) ?_
  repeat (first | refine CH.pureA ?_ | refine CH.readA ?_ | refine CH.skA ?_ | refine CH.skCA ?_ | refine CH.nil ?_)
  refine CH.pure rfl (PS.sliceArr (l := 120) (h := 128) rfl rfl rfl rfl (.inr ⟨_, rfl⟩) (.inl ⟨rfl, rfl⟩) (by omega) (by omega)) ?_
  rw [cut120]
  refine CH.read rfl (PS.toStr (b := B.drop 120) rfl rfl (by simp; omega) (fun y hy => by have := rdx_bk (t := 29) (b := r) (B := B) (by repeat (first | exact .head _ | apply Pick.tail | apply Upd.tail)) 120 8 (by omega) y hy; rwa [List.take_of_length_le (by simp; omega)] at this)) (by repeat (first | exact Sel.nil _ | (apply Sel.cons; (· repeat (first | exact .head _ | apply Pick.tail | apply Upd.tail))))) ?_
  refine CH.pure rfl (PS.neqStr rfl rfl rfl) ?_
  repeat (first | refine CH.pureA ?_ | refine CH.readA ?_ | refine CH.skA ?_ | refine CH.skCA ?_ | refine CH.nil ?_)
  by_cases h2 : ofLe (B.drop 120) = top - ofLe (B.take 8)
  · have h2' : ¬ (le 8 (top - ofLe (B.take 8)) ≠ B.drop 120) := fun h => h (li.2 h2)
    repeat (first | refine CX.psA ?_ | refine CX.nil ?_ | refine CQ.thenN ?_ | refine CQ.thenR ?_ | refine CQ.thenX ?_ | refine CQ.blockN ?_ | refine CQ.blockR ?_ | refine CQ.blockX ?_ | refine CQ.blockYA ?_ | refine CC.seq ?_ | refine CC.block ?_ | refine CC.region ?_ | refine CC.skip ?_ | refine CC.ret ?_ | refine CC.exit ?_ | refine CC.condTA ?_ | refine CC.condFA ?_ | refine CC.condDTA ?_ | refine CC.condDFA ?_ | refine CX.storeA ?_ | refine CX.skipA ?_)
    refine CX.ps (PS.sliceArr (l := 0) (h := 128) rfl rfl rfl rfl (.inl ⟨rfl, rfl⟩) (.inl ⟨rfl, rfl⟩) (by omega) (by omega)) ?_
    rw [cut0]
    have cc := rget_c B (some ⟨r, 0, none⟩) 128 116 4 (by omega) (by omega) (by omega)
    rw [hB', show getN B 116 4 = _ from g2] at cc
    refine CX.callA (cc) ?_ (hpre := by exact full_rdx hB (by repeat (first | exact .head _ | apply Pick.tail | apply Upd.tail)))
    clear cc
    rintro _ _ ⟨rfl, rfl⟩
    repeat (first | refine CX.psA ?_ | refine CX.nil ?_ | refine CQ.thenN ?_ | refine CQ.thenR ?_ | refine CQ.thenX ?_ | refine CQ.blockN ?_ | refine CQ.blockR ?_ | refine CQ.blockX ?_ | refine CQ.blockYA ?_ | refine CC.seq ?_ | refine CC.block ?_ | refine CC.region ?_ | refine CC.skip ?_ | refine CC.ret ?_ | refine CC.exit ?_ | refine CC.condTA ?_ | refine CC.condFA ?_ | refine CC.condDTA ?_ | refine CC.condDFA ?_ | refine CX.storeA ?_ | refine CX.skipA ?_)
    refine CX.ps (PS.sliceArrHi (h := 116) rfl rfl rfl rfl (by omega)) ?_
    have hl2 : (B.take 116).length = 116 := by simp; omega
    have cc := rof_c (B.take 116) (by omega) (some ⟨r, 0, none⟩) 128 (by omega)
    rw [hl2] at cc
    refine CX.callA (cc) ?_ (hpre := by exact fun y hy => by have := rdx_bk (t := 29) (b := r) (B := B) (by repeat (first | exact .head _ | apply Pick.tail | apply Upd.tail)) 0 116 (by omega) y hy; rwa [List.drop_zero] at this)
    clear cc
    rintro _ _ ⟨rfl, rfl⟩
    by_cases h3 : ofLe ((B.drop 116).take 4) = crcM (B.take 116)
    · have e : getM B = (ofLe (B.take 8), (B.drop 8).take 108, 0) := by unfold getM; rw [if_neg (by omega), if_neg (by omega)]
      have hl : ((B.drop 8).take 108).length = 108 := by simp; omega
      repeat (first | refine CX.psA ?_ | refine CX.nil ?_ | refine CQ.thenN ?_ | refine CQ.thenR ?_ | refine CQ.thenX ?_ | refine CQ.blockN ?_ | refine CQ.blockR ?_ | refine CQ.blockX ?_ | refine CQ.blockYA ?_ | refine CC.seq ?_ | refine CC.block ?_ | refine CC.region ?_ | refine CC.skip ?_ | refine CC.ret ?_ | refine CC.exit ?_ | refine CC.condTA ?_ | refine CC.condFA ?_ | refine CC.condDTA ?_ | refine CC.condDFA ?_ | refine CX.storeA ?_ | refine CX.skipA ?_)
      refine CC.ownNil 5 1 ?_
      refine CC.loop (X := Nat × Option Addr × Nat) (fun s => [(12, .int .i64 ((8 + s.1 : Nat) : Int)), (11, .slice s.2.1 s.1 s.2.2), (1, .pointer (some ⟨r, 0, none⟩)), (5, .int .u64 ((ofLe (B.take 8) : Nat) : Int))])
        (fun s => [own 5 1 s.2.1 s.1 s.2.2 (cb (((B.drop 8).take 108).take s.1)), bk r 29 (cb B), exact x]) (fun s => s.1 ≤ 108) (fun s => 108 - s.1) (0, none, 0) (Nat.zero_le _) ⟨rfl, rfl, rfl, rfl, trivial⟩ (by repeat (first | exact Sel.nil _ | (apply Sel.cons; (· repeat (first | exact .head _ | apply Pick.tail | apply Upd.tail))))) ?_
      rintro ⟨i, a, c⟩ hi
      dsimp only at hi ⊢
      by_cases h5 : i < 108
      · have h6 : 8 + i < B.length := by omega
        have es : ((B.drop 8).take 108).take (i + 1) = ((B.drop 8).take 108).take i ++ [B[8 + i]] := by
          rw [List.take_succ_eq_append_getElem (by omega)]; simp
        repeat (first | refine CX.psA ?_ | refine CX.nil ?_ | refine CQ.thenN ?_ | refine CQ.thenR ?_ | refine CQ.thenX ?_ | refine CQ.blockN ?_ | refine CQ.blockR ?_ | refine CQ.blockX ?_ | refine CQ.blockYA ?_ | refine CC.seq ?_ | refine CC.block ?_ | refine CC.region ?_ | refine CC.skip ?_ | refine CC.ret ?_ | refine CC.exit ?_ | refine CC.condTA ?_ | refine CC.condFA ?_ | refine CC.condDTA ?_ | refine CC.condDFA ?_ | refine CX.storeA ?_ | refine CX.skipA ?_)
        refine CX.ps (PS.indexArr (j := 8 + i) rfl rfl rfl rfl (by omega)) ?_
        (refine CX.loadA _ (CellAt.bkB (j := 8 + i) (by repeat (first | exact .head _ | apply Pick.tail | apply Upd.tail)) h6) ?_)
        (refine CX.appB (B[8 + i]) ?_ ?_ ?_; (· omega); (· rfl); intro bq a' c')
        rw [← es]
        repeat (first | refine CX.psA ?_ | refine CX.nil ?_ | refine CQ.thenN ?_ | refine CQ.thenR ?_ | refine CQ.thenX ?_ | refine CQ.blockN ?_ | refine CQ.blockR ?_ | refine CQ.blockX ?_ | refine CQ.blockYA ?_ | refine CC.seq ?_ | refine CC.block ?_ | refine CC.region ?_ | refine CC.skip ?_ | refine CC.ret ?_ | refine CC.exit ?_ | refine CC.condTA ?_ | refine CC.condFA ?_ | refine CC.condDTA ?_ | refine CC.condDFA ?_ | refine CX.storeA ?_ | refine CX.skipA ?_)
        exact CQ.round (x := (i, a, c)) (i + 1, a', c') (by dsimp only; omega) (by dsimp only; omega) ⟨eqI (by dsimp only; omega), rfl, rfl, rfl, trivial⟩ (by repeat (first | exact Sel.nil _ | (apply Sel.cons; (· repeat (first | exact .head _ | apply Pick.tail | apply Upd.tail)))))
      · obtain rfl : i = 108 := by omega
        rw [show ((B.drop 8).take 108).take 108 = (B.drop 8).take 108 from List.take_of_length_le (by omega)]
        repeat (first | refine CX.psA ?_ | refine CX.nil ?_ | refine CQ.thenN ?_ | refine CQ.thenR ?_ | refine CQ.thenX ?_ | refine CQ.blockN ?_ | refine CQ.blockR ?_ | refine CQ.blockX ?_ | refine CQ.blockYA ?_ | refine CC.seq ?_ | refine CC.block ?_ | refine CC.region ?_ | refine CC.skip ?_ | refine CC.ret ?_ | refine CC.exit ?_ | refine CC.condTA ?_ | refine CC.condFA ?_ | refine CC.condDTA ?_ | refine CC.condDFA ?_ | refine CX.storeA ?_ | refine CX.skipA ?_)
        (apply CQ.end3; (· rfl); (· exact .tmp rfl); (· exact .tmp rfl); (· exact .tmp rfl))
        · exact (show GotM B _ [own 5 1 a 108 c (cb ((B.drop 8).take 108))] from ⟨a, c, by rw [e]; dsimp only; rw [hl], by rw [e]; dsimp only; rw [hl]⟩)
        · repeat (first | exact Sel.nil _ | (apply Sel.cons; (· repeat (first | exact .head _ | apply Pick.tail | apply Upd.tail))))
    · have e : getM B = (0, [], 6) := by unfold getM; rw [if_neg (by omega), if_pos h3]
      repeat (first | refine CX.psA ?_ | refine CX.nil ?_ | refine CQ.thenN ?_ | refine CQ.thenR ?_ | refine CQ.thenX ?_ | refine CQ.blockN ?_ | refine CQ.blockR ?_ | refine CQ.blockX ?_ | refine CQ.blockYA ?_ | refine CC.seq ?_ | refine CC.block ?_ | refine CC.region ?_ | refine CC.skip ?_ | refine CC.ret ?_ | refine CC.exit ?_ | refine CC.condTA ?_ | refine CC.condFA ?_ | refine CC.condDTA ?_ | refine CC.condDFA ?_ | refine CX.storeA ?_ | refine CX.skipA ?_)
      refine CQ.ownNil 5 1 ?_
      (apply CQ.end3; (· rfl); (· exact .tmp rfl); (· exact .tmp rfl); (· exact .tmp rfl))
      · exact (show GotM B _ [own 5 1 none 0 0 (cb [])] from ⟨none, 0, by rw [e]; rfl, by rw [e]; rfl⟩)
      · repeat (first | exact Sel.nil _ | (apply Sel.cons; (· repeat (first | exact .head _ | apply Pick.tail | apply Upd.tail))))
  · have e : getM B = (0, [], 5) := by unfold getM; rw [if_pos (.inr h2)]
    have h2' : le 8 (top - ofLe (B.take 8)) ≠ B.drop 120 := fun h => h2 (li.1 h)
    repeat (first | refine CX.psA ?_ | refine CX.nil ?_ | refine CQ.thenN ?_ | refine CQ.thenR ?_ | refine CQ.thenX ?_ | refine CQ.blockN ?_ | refine CQ.blockR ?_ | refine CQ.blockX ?_ | refine CQ.blockYA ?_ | refine CC.seq ?_ | refine CC.block ?_ | refine CC.region ?_ | refine CC.skip ?_ | refine CC.ret ?_ | refine CC.exit ?_ | refine CC.condTA ?_ | refine CC.condFA ?_ | refine CC.condDTA ?_ | refine CC.condDFA ?_ | refine CX.storeA ?_ | refine CX.skipA ?_)
    refine CQ.ownNil 5 1 ?_
    (apply CQ.end3; (· rfl); (· exact .tmp rfl); (· exact .tmp rfl); (· exact .tmp rfl))
    · exact (show GotM B _ [own 5 1 none 0 0 (cb [])] from ⟨none, 0, by rw [e]; rfl, by rw [e]; rfl⟩)
    · repeat (first | exact Sel.nil _ | (apply Sel.cons; (· repeat (first | exact .head _ | apply Pick.tail | apply Upd.tail))))
theorem r5worth_c (B : Blk) (hB : WB B) : Ctr Try.prog 101 [.agg (cb B).toArray] [] (fun _ => True) (fun v M => v = .int .u64 ((getM B).1 : Int) ∧ M = []) := by
  refine Ctr.intro Try.func101 rfl Try.ntmps101 rfl fun x w hp => ?_
  repeat (first | refine CX.psA ?_ | refine CX.nil ?_ | refine CQ.thenN ?_ | refine CQ.thenR ?_ | refine CQ.thenX ?_ | refine CQ.blockN ?_ | refine CQ.blockR ?_ | refine CQ.blockX ?_ | refine CQ.blockYA ?_ | refine CC.seq ?_ | refine CC.block ?_ | refine CC.region ?_ | refine CC.skip ?_ | refine CC.ret ?_ | refine CC.exit ?_ | refine CC.condTA ?_ | refine CC.condFA ?_ | refine CC.condDTA ?_ | refine CC.condDFA ?_ | refine CX.storeA ?_ | refine CX.skipA ?_)
  (refine CX.boxA ?_; intro r)
  repeat (first | refine CX.psA ?_ | refine CX.nil ?_ | refine CQ.thenN ?_ | refine CQ.thenR ?_ | refine CQ.thenX ?_ | refine CQ.blockN ?_ | refine CQ.blockR ?_ | refine CQ.blockX ?_ | refine CQ.blockYA ?_ | refine CC.seq ?_ | refine CC.block ?_ | refine CC.region ?_ | refine CC.skip ?_ | refine CC.ret ?_ | refine CC.exit ?_ | refine CC.condTA ?_ | refine CC.condFA ?_ | refine CC.condDTA ?_ | refine CC.condDFA ?_ | refine CX.storeA ?_ | refine CX.skipA ?_)
  ((apply CX.ps; (· apply PS.loadG (vs := cb (B)); (· rfl); (· rfl); (· exact CellsAt.all (by repeat (first | exact .head _ | apply Pick.tail | apply Upd.tail))); (· exact hB.len))))
  refine CX.callA (r5get_c B hB) ?_
  rintro _ _ ⟨a, c, rfl, rfl⟩
  repeat (first | refine CX.psA ?_ | refine CX.nil ?_ | refine CQ.thenN ?_ | refine CQ.thenR ?_ | refine CQ.thenX ?_ | refine CQ.blockN ?_ | refine CQ.blockR ?_ | refine CQ.blockX ?_ | refine CQ.blockYA ?_ | refine CC.seq ?_ | refine CC.block ?_ | refine CC.region ?_ | refine CC.skip ?_ | refine CC.ret ?_ | refine CC.exit ?_ | refine CC.condTA ?_ | refine CC.condFA ?_ | refine CC.condDTA ?_ | refine CC.condDFA ?_ | refine CX.storeA ?_ | refine CX.skipA ?_)
  ((apply CQ.end1; (· rfl); (· exact .tmp rfl)); (· exact ⟨rfl, rfl⟩); (· repeat (first | exact Sel.nil _ | (apply Sel.cons; (· repeat (first | exact .head _ | apply Pick.tail | apply Upd.tail))))))
theorem r5newest_c (A B : Blk) (hA : WB A) (hB : WB B) : Ctr Try.prog 42 [.agg (cb A).toArray, .agg (cb B).toArray] [] (fun _ => True) (fun v M => v = .tuple #[.int .i64 (newestM A B).1, .int .i64 (newestM A B).2] ∧ M = []) := by
  have hn := getM_lt A
  have hm := getM_lt B
  have hz := sum_zero hn hm
  refine Ctr.intro Try.func42 rfl Try.ntmps42 rfl fun x w hp => ?_
  repeat (first | refine CX.psA ?_ | refine CX.nil ?_ | refine CQ.thenN ?_ | refine CQ.thenR ?_ | refine CQ.thenX ?_ | refine CQ.blockN ?_ | refine CQ.blockR ?_ | refine CQ.blockX ?_ | refine CQ.blockYA ?_ | refine CC.seq ?_ | refine CC.block ?_ | refine CC.region ?_ | refine CC.skip ?_ | refine CC.ret ?_ | refine CC.exit ?_ | refine CC.condTA ?_ | refine CC.condFA ?_ | refine CC.condDTA ?_ | refine CC.condDFA ?_ | refine CX.storeA ?_ | refine CX.skipA ?_)
  (refine CX.boxA ?_; intro r)
  repeat (first | refine CX.psA ?_ | refine CX.nil ?_ | refine CQ.thenN ?_ | refine CQ.thenR ?_ | refine CQ.thenX ?_ | refine CQ.blockN ?_ | refine CQ.blockR ?_ | refine CQ.blockX ?_ | refine CQ.blockYA ?_ | refine CC.seq ?_ | refine CC.block ?_ | refine CC.region ?_ | refine CC.skip ?_ | refine CC.ret ?_ | refine CC.exit ?_ | refine CC.condTA ?_ | refine CC.condFA ?_ | refine CC.condDTA ?_ | refine CC.condDFA ?_ | refine CX.storeA ?_ | refine CX.skipA ?_)
  (refine CX.boxA ?_; intro s)
  repeat (first | refine CX.psA ?_ | refine CX.nil ?_ | refine CQ.thenN ?_ | refine CQ.thenR ?_ | refine CQ.thenX ?_ | refine CQ.blockN ?_ | refine CQ.blockR ?_ | refine CQ.blockX ?_ | refine CQ.blockYA ?_ | refine CC.seq ?_ | refine CC.block ?_ | refine CC.region ?_ | refine CC.skip ?_ | refine CC.ret ?_ | refine CC.exit ?_ | refine CC.condTA ?_ | refine CC.condFA ?_ | refine CC.condDTA ?_ | refine CC.condDFA ?_ | refine CX.storeA ?_ | refine CX.skipA ?_)
  refine CC.draw [(0, 1), (2, 1), (1, 2), (3, 2), (4, 0), (5, 0), (6, 0), (7, 1), (8, 2), (9, 0), (10, 0)] mixed rfl (by kernel_rfl) (by kernel_rfl) [bk r 29 (cb A), bk s 29 (cb B)] ?_
  (apply CH.read; (· rfl); (· apply PS.loadG (vs := cb A); (· rfl); (· rfl); (· exact CellsAt.all (by repeat (first | exact .head _ | apply Pick.tail | apply Upd.tail))); (· exact hA.len)); (· repeat (first | exact Sel.nil _ | (apply Sel.cons; (· repeat (first | exact .head _ | apply Pick.tail | apply Upd.tail))))))
  (apply CH.read; (· rfl); (· apply PS.loadG (vs := cb B); (· rfl); (· rfl); (· exact CellsAt.all (by repeat (first | exact .head _ | apply Pick.tail | apply Upd.tail))); (· exact hB.len)); (· repeat (first | exact Sel.nil _ | (apply Sel.cons; (· repeat (first | exact .head _ | apply Pick.tail | apply Upd.tail))))))
  refine CH.chain rfl fun K hK => ?_
  refine CX.callA (r5worth_c A hA) ?_
  rintro _ _ ⟨rfl, rfl⟩
  (refine CX.nil ?_; refine CQ.thenK ?_; apply hK; (· repeat (first | exact Sel.nil _ | (apply Sel.cons; (· repeat (first | exact .head _ | apply Pick.tail | apply Upd.tail))))); clear hK K)
  refine CH.chain rfl fun K hK => ?_
  refine CX.callA (r5worth_c B hB) ?_
  rintro _ _ ⟨rfl, rfl⟩
  (refine CX.nil ?_; refine CQ.thenK ?_; apply hK; (· repeat (first | exact Sel.nil _ | (apply Sel.cons; (· repeat (first | exact .head _ | apply Pick.tail | apply Upd.tail))))); clear hK K)
  refine CH.pure rfl (PS.addM (k := .u64) (getM A).1 (getM B).1 rfl rfl rfl rfl) ?_
  generalize hq : ((getM A).1 + (getM B).1) % 2 ^ IntKind.u64.bits = q at hz
  by_cases h1 : (getM A).1 = 0 ∧ (getM B).1 = 0
  · have e : newestM A B = (0, 7) := by unfold newestM; rw [if_pos h1]
    obtain ⟨hq0, hn0⟩ := hz.2 h1
    repeat (first | refine CH.pureA ?_ | refine CH.readA ?_ | refine CH.skA ?_ | refine CH.skCA ?_ | refine CH.nil ?_)
    (apply CH.read; (· rfl); (· apply PS.loadG (vs := cb A); (· rfl); (· rfl); (· exact CellsAt.all (by repeat (first | exact .head _ | apply Pick.tail | apply Upd.tail))); (· exact hA.len)); (· repeat (first | exact Sel.nil _ | (apply Sel.cons; (· repeat (first | exact .head _ | apply Pick.tail | apply Upd.tail))))))
    refine CH.chain rfl fun K hK => ?_
    refine CX.callA (r5worth_c A hA) ?_
    rintro _ _ ⟨rfl, rfl⟩
    (refine CX.nil ?_; refine CQ.thenK ?_; apply hK; (· repeat (first | exact Sel.nil _ | (apply Sel.cons; (· repeat (first | exact .head _ | apply Pick.tail | apply Upd.tail))))); clear hK K)
    repeat (first | refine CH.pureA ?_ | refine CH.readA ?_ | refine CH.skA ?_ | refine CH.skCA ?_ | refine CH.nil ?_)
    repeat (first | refine CX.psA ?_ | refine CX.nil ?_ | refine CQ.thenN ?_ | refine CQ.thenR ?_ | refine CQ.thenX ?_ | refine CQ.blockN ?_ | refine CQ.blockR ?_ | refine CQ.blockX ?_ | refine CQ.blockYA ?_ | refine CC.seq ?_ | refine CC.block ?_ | refine CC.region ?_ | refine CC.skip ?_ | refine CC.ret ?_ | refine CC.exit ?_ | refine CC.condTA ?_ | refine CC.condFA ?_ | refine CC.condDTA ?_ | refine CC.condDFA ?_ | refine CX.storeA ?_ | refine CX.skipA ?_)
    rw [e]
    (apply CQ.end2; (· rfl); (· exact .tmp rfl); (· exact .tmp rfl))
    · exact ⟨rfl, rfl⟩
    · repeat (first | exact Sel.nil _ | (apply Sel.cons; (· repeat (first | exact .head _ | apply Pick.tail | apply Upd.tail))))
  by_cases h2 : q = 0
  · have h3 : ¬ (getM A).1 = 0 := fun h => h1 (hz.1 ⟨h2, h⟩)
    repeat (first | refine CH.pureA ?_ | refine CH.readA ?_ | refine CH.skA ?_ | refine CH.skCA ?_ | refine CH.nil ?_)
    (apply CH.read; (· rfl); (· apply PS.loadG (vs := cb A); (· rfl); (· rfl); (· exact CellsAt.all (by repeat (first | exact .head _ | apply Pick.tail | apply Upd.tail))); (· exact hA.len)); (· repeat (first | exact Sel.nil _ | (apply Sel.cons; (· repeat (first | exact .head _ | apply Pick.tail | apply Upd.tail))))))
    refine CH.chain rfl fun K hK => ?_
    refine CX.callA (r5worth_c A hA) ?_
    rintro _ _ ⟨rfl, rfl⟩
    (refine CX.nil ?_; refine CQ.thenK ?_; apply hK; (· repeat (first | exact Sel.nil _ | (apply Sel.cons; (· repeat (first | exact .head _ | apply Pick.tail | apply Upd.tail))))); clear hK K)
    repeat (first | refine CH.pureA ?_ | refine CH.readA ?_ | refine CH.skA ?_ | refine CH.skCA ?_ | refine CH.nil ?_)
    repeat (first | refine CX.psA ?_ | refine CX.nil ?_ | refine CQ.thenN ?_ | refine CQ.thenR ?_ | refine CQ.thenX ?_ | refine CQ.blockN ?_ | refine CQ.blockR ?_ | refine CQ.blockX ?_ | refine CQ.blockYA ?_ | refine CC.seq ?_ | refine CC.block ?_ | refine CC.region ?_ | refine CC.skip ?_ | refine CC.ret ?_ | refine CC.exit ?_ | refine CC.condTA ?_ | refine CC.condFA ?_ | refine CC.condDTA ?_ | refine CC.condDFA ?_ | refine CX.storeA ?_ | refine CX.skipA ?_)
    refine CC.draw [(0, 1), (2, 1), (1, 2), (3, 2), (4, 0)] mixed rfl (by kernel_rfl) (by kernel_rfl) [bk r 29 (cb A), bk s 29 (cb B)] ?_
    (apply CH.read; (· rfl); (· apply PS.loadG (vs := cb B); (· rfl); (· rfl); (· exact CellsAt.all (by repeat (first | exact .head _ | apply Pick.tail | apply Upd.tail))); (· exact hB.len)); (· repeat (first | exact Sel.nil _ | (apply Sel.cons; (· repeat (first | exact .head _ | apply Pick.tail | apply Upd.tail))))))
    (apply CH.read; (· rfl); (· apply PS.loadG (vs := cb A); (· rfl); (· rfl); (· exact CellsAt.all (by repeat (first | exact .head _ | apply Pick.tail | apply Upd.tail))); (· exact hA.len)); (· repeat (first | exact Sel.nil _ | (apply Sel.cons; (· repeat (first | exact .head _ | apply Pick.tail | apply Upd.tail))))))
    refine CH.chain rfl fun K hK => ?_
    refine CX.callA (r5worth_c B hB) ?_
    rintro _ _ ⟨rfl, rfl⟩
    (refine CX.nil ?_; refine CQ.thenK ?_; apply hK; (· repeat (first | exact Sel.nil _ | (apply Sel.cons; (· repeat (first | exact .head _ | apply Pick.tail | apply Upd.tail))))); clear hK K)
    refine CH.chain rfl fun K hK => ?_
    refine CX.callA (r5worth_c A hA) ?_
    rintro _ _ ⟨rfl, rfl⟩
    (refine CX.nil ?_; refine CQ.thenK ?_; apply hK; (· repeat (first | exact Sel.nil _ | (apply Sel.cons; (· repeat (first | exact .head _ | apply Pick.tail | apply Upd.tail))))); clear hK K)
    by_cases h4 : (getM A).1 < (getM B).1
    · have e : newestM A B = (1, 0) := by unfold newestM; rw [if_neg h1, if_pos h4]
      repeat (first | refine CH.pureA ?_ | refine CH.readA ?_ | refine CH.skA ?_ | refine CH.skCA ?_ | refine CH.nil ?_)
      repeat (first | refine CX.psA ?_ | refine CX.nil ?_ | refine CQ.thenN ?_ | refine CQ.thenR ?_ | refine CQ.thenX ?_ | refine CQ.blockN ?_ | refine CQ.blockR ?_ | refine CQ.blockX ?_ | refine CQ.blockYA ?_ | refine CC.seq ?_ | refine CC.block ?_ | refine CC.region ?_ | refine CC.skip ?_ | refine CC.ret ?_ | refine CC.exit ?_ | refine CC.condTA ?_ | refine CC.condFA ?_ | refine CC.condDTA ?_ | refine CC.condDFA ?_ | refine CX.storeA ?_ | refine CX.skipA ?_)
      rw [e]
      (apply CQ.end2; (· rfl); (· exact .tmp rfl); (· exact .tmp rfl))
      · exact ⟨rfl, rfl⟩
      · repeat (first | exact Sel.nil _ | (apply Sel.cons; (· repeat (first | exact .head _ | apply Pick.tail | apply Upd.tail))))
    · have e : newestM A B = (0, 0) := by unfold newestM; rw [if_neg h1, if_neg h4]
      repeat (first | refine CH.pureA ?_ | refine CH.readA ?_ | refine CH.skA ?_ | refine CH.skCA ?_ | refine CH.nil ?_)
      repeat (first | refine CX.psA ?_ | refine CX.nil ?_ | refine CQ.thenN ?_ | refine CQ.thenR ?_ | refine CQ.thenX ?_ | refine CQ.blockN ?_ | refine CQ.blockR ?_ | refine CQ.blockX ?_ | refine CQ.blockYA ?_ | refine CC.seq ?_ | refine CC.block ?_ | refine CC.region ?_ | refine CC.skip ?_ | refine CC.ret ?_ | refine CC.exit ?_ | refine CC.condTA ?_ | refine CC.condFA ?_ | refine CC.condDTA ?_ | refine CC.condDFA ?_ | refine CX.storeA ?_ | refine CX.skipA ?_)
      rw [e]
      (apply CQ.end2; (· rfl); (· exact .tmp rfl); (· exact .tmp rfl))
      · exact ⟨rfl, rfl⟩
      · repeat (first | exact Sel.nil _ | (apply Sel.cons; (· repeat (first | exact .head _ | apply Pick.tail | apply Upd.tail))))
  · repeat (first | refine CH.pureA ?_ | refine CH.readA ?_ | refine CH.skA ?_ | refine CH.skCA ?_ | refine CH.nil ?_)
    repeat (first | refine CX.psA ?_ | refine CX.nil ?_ | refine CQ.thenN ?_ | refine CQ.thenR ?_ | refine CQ.thenX ?_ | refine CQ.blockN ?_ | refine CQ.blockR ?_ | refine CQ.blockX ?_ | refine CQ.blockYA ?_ | refine CC.seq ?_ | refine CC.block ?_ | refine CC.region ?_ | refine CC.skip ?_ | refine CC.ret ?_ | refine CC.exit ?_ | refine CC.condTA ?_ | refine CC.condFA ?_ | refine CC.condDTA ?_ | refine CC.condDFA ?_ | refine CX.storeA ?_ | refine CX.skipA ?_)
    refine CC.draw [(0, 1), (2, 1), (1, 2), (3, 2), (4, 0)] mixed rfl (by kernel_rfl) (by kernel_rfl) [bk r 29 (cb A), bk s 29 (cb B)] ?_
    (apply CH.read; (· rfl); (· apply PS.loadG (vs := cb B); (· rfl); (· rfl); (· exact CellsAt.all (by repeat (first | exact .head _ | apply Pick.tail | apply Upd.tail))); (· exact hB.len)); (· repeat (first | exact Sel.nil _ | (apply Sel.cons; (· repeat (first | exact .head _ | apply Pick.tail | apply Upd.tail))))))
    (apply CH.read; (· rfl); (· apply PS.loadG (vs := cb A); (· rfl); (· rfl); (· exact CellsAt.all (by repeat (first | exact .head _ | apply Pick.tail | apply Upd.tail))); (· exact hA.len)); (· repeat (first | exact Sel.nil _ | (apply Sel.cons; (· repeat (first | exact .head _ | apply Pick.tail | apply Upd.tail))))))
    refine CH.chain rfl fun K hK => ?_
    refine CX.callA (r5worth_c B hB) ?_
    rintro _ _ ⟨rfl, rfl⟩
    (refine CX.nil ?_; refine CQ.thenK ?_; apply hK; (· repeat (first | exact Sel.nil _ | (apply Sel.cons; (· repeat (first | exact .head _ | apply Pick.tail | apply Upd.tail))))); clear hK K)
    refine CH.chain rfl fun K hK => ?_
    refine CX.callA (r5worth_c A hA) ?_
    rintro _ _ ⟨rfl, rfl⟩
    (refine CX.nil ?_; refine CQ.thenK ?_; apply hK; (· repeat (first | exact Sel.nil _ | (apply Sel.cons; (· repeat (first | exact .head _ | apply Pick.tail | apply Upd.tail))))); clear hK K)
    by_cases h4 : (getM A).1 < (getM B).1
    · have e : newestM A B = (1, 0) := by unfold newestM; rw [if_neg h1, if_pos h4]
      repeat (first | refine CH.pureA ?_ | refine CH.readA ?_ | refine CH.skA ?_ | refine CH.skCA ?_ | refine CH.nil ?_)
      repeat (first | refine CX.psA ?_ | refine CX.nil ?_ | refine CQ.thenN ?_ | refine CQ.thenR ?_ | refine CQ.thenX ?_ | refine CQ.blockN ?_ | refine CQ.blockR ?_ | refine CQ.blockX ?_ | refine CQ.blockYA ?_ | refine CC.seq ?_ | refine CC.block ?_ | refine CC.region ?_ | refine CC.skip ?_ | refine CC.ret ?_ | refine CC.exit ?_ | refine CC.condTA ?_ | refine CC.condFA ?_ | refine CC.condDTA ?_ | refine CC.condDFA ?_ | refine CX.storeA ?_ | refine CX.skipA ?_)
      rw [e]
      (apply CQ.end2; (· rfl); (· exact .tmp rfl); (· exact .tmp rfl))
      · exact ⟨rfl, rfl⟩
      · repeat (first | exact Sel.nil _ | (apply Sel.cons; (· repeat (first | exact .head _ | apply Pick.tail | apply Upd.tail))))
    · have e : newestM A B = (0, 0) := by unfold newestM; rw [if_neg h1, if_neg h4]
      repeat (first | refine CH.pureA ?_ | refine CH.readA ?_ | refine CH.skA ?_ | refine CH.skCA ?_ | refine CH.nil ?_)
      repeat (first | refine CX.psA ?_ | refine CX.nil ?_ | refine CQ.thenN ?_ | refine CQ.thenR ?_ | refine CQ.thenX ?_ | refine CQ.blockN ?_ | refine CQ.blockR ?_ | refine CQ.blockX ?_ | refine CQ.blockYA ?_ | refine CC.seq ?_ | refine CC.block ?_ | refine CC.region ?_ | refine CC.skip ?_ | refine CC.ret ?_ | refine CC.exit ?_ | refine CC.condTA ?_ | refine CC.condFA ?_ | refine CC.condDTA ?_ | refine CC.condDFA ?_ | refine CX.storeA ?_ | refine CX.skipA ?_)
      rw [e]
      (apply CQ.end2; (· rfl); (· exact .tmp rfl); (· exact .tmp rfl))
      · exact ⟨rfl, rfl⟩
      · repeat (first | exact Sel.nil _ | (apply Sel.cons; (· repeat (first | exact .head _ | apply Pick.tail | apply Upd.tail))))
theorem r5next_c (A B : Blk) (hA : WB A) (hB : WB B) : Ctr Try.prog 44 [.agg (cb A).toArray, .agg (cb B).toArray] [] (fun _ => True) (fun v M => v = .int .i64 (nextM A B) ∧ M = []) := by
  refine Ctr.intro Try.func44 rfl Try.ntmps44 rfl fun x w hp => ?_
  repeat (first | refine CX.psA ?_ | refine CX.nil ?_ | refine CQ.thenN ?_ | refine CQ.thenR ?_ | refine CQ.thenX ?_ | refine CQ.blockN ?_ | refine CQ.blockR ?_ | refine CQ.blockX ?_ | refine CQ.blockYA ?_ | refine CC.seq ?_ | refine CC.block ?_ | refine CC.region ?_ | refine CC.skip ?_ | refine CC.ret ?_ | refine CC.exit ?_ | refine CC.condTA ?_ | refine CC.condFA ?_ | refine CC.condDTA ?_ | refine CC.condDFA ?_ | refine CX.storeA ?_ | refine CX.skipA ?_)
  (refine CX.boxA ?_; intro r)
  repeat (first | refine CX.psA ?_ | refine CX.nil ?_ | refine CQ.thenN ?_ | refine CQ.thenR ?_ | refine CQ.thenX ?_ | refine CQ.blockN ?_ | refine CQ.blockR ?_ | refine CQ.blockX ?_ | refine CQ.blockYA ?_ | refine CC.seq ?_ | refine CC.block ?_ | refine CC.region ?_ | refine CC.skip ?_ | refine CC.ret ?_ | refine CC.exit ?_ | refine CC.condTA ?_ | refine CC.condFA ?_ | refine CC.condDTA ?_ | refine CC.condDFA ?_ | refine CX.storeA ?_ | refine CX.skipA ?_)
  (refine CX.boxA ?_; intro s)
  repeat (first | refine CX.psA ?_ | refine CX.nil ?_ | refine CQ.thenN ?_ | refine CQ.thenR ?_ | refine CQ.thenX ?_ | refine CQ.blockN ?_ | refine CQ.blockR ?_ | refine CQ.blockX ?_ | refine CQ.blockYA ?_ | refine CC.seq ?_ | refine CC.block ?_ | refine CC.region ?_ | refine CC.skip ?_ | refine CC.ret ?_ | refine CC.exit ?_ | refine CC.condTA ?_ | refine CC.condFA ?_ | refine CC.condDTA ?_ | refine CC.condDFA ?_ | refine CX.storeA ?_ | refine CX.skipA ?_)
  refine CC.draw [(0, 1), (1, 2), (2, 0), (3, 0), (4, 1), (6, 1), (5, 2), (7, 2), (8, 0), (9, 0)] mixed rfl (by kernel_rfl) (by kernel_rfl) [bk r 29 (cb A), bk s 29 (cb B)] ?_
  (apply CH.read; (· rfl); (· apply PS.loadG (vs := cb A); (· rfl); (· rfl); (· exact CellsAt.all (by repeat (first | exact .head _ | apply Pick.tail | apply Upd.tail))); (· exact hA.len)); (· repeat (first | exact Sel.nil _ | (apply Sel.cons; (· repeat (first | exact .head _ | apply Pick.tail | apply Upd.tail))))))
  refine CH.chain rfl fun K hK => ?_
  refine CX.callA (r5worth_c A hA) ?_
  rintro _ _ ⟨rfl, rfl⟩
  (refine CX.nil ?_; refine CQ.thenK ?_; apply hK; (· repeat (first | exact Sel.nil _ | (apply Sel.cons; (· repeat (first | exact .head _ | apply Pick.tail | apply Upd.tail))))); clear hK K)
  by_cases h1 : (getM A).1 = 0
  · have e : nextM A B = 0 := by unfold nextM; split <;> first | rfl | (rw [if_pos (by omega)])
    repeat (first | refine CH.pureA ?_ | refine CH.readA ?_ | refine CH.skA ?_ | refine CH.skCA ?_ | refine CH.nil ?_)
    repeat (first | refine CX.psA ?_ | refine CX.nil ?_ | refine CQ.thenN ?_ | refine CQ.thenR ?_ | refine CQ.thenX ?_ | refine CQ.blockN ?_ | refine CQ.blockR ?_ | refine CQ.blockX ?_ | refine CQ.blockYA ?_ | refine CC.seq ?_ | refine CC.block ?_ | refine CC.region ?_ | refine CC.skip ?_ | refine CC.ret ?_ | refine CC.exit ?_ | refine CC.condTA ?_ | refine CC.condFA ?_ | refine CC.condDTA ?_ | refine CC.condDFA ?_ | refine CX.storeA ?_ | refine CX.skipA ?_)
    rw [e]
    ((apply CQ.end1; (· rfl); (· exact .tmp rfl)); (· exact ⟨rfl, rfl⟩); (· repeat (first | exact Sel.nil _ | (apply Sel.cons; (· repeat (first | exact .head _ | apply Pick.tail | apply Upd.tail))))))
  · repeat (first | refine CH.pureA ?_ | refine CH.readA ?_ | refine CH.skA ?_ | refine CH.skCA ?_ | refine CH.nil ?_)
    (apply CH.read; (· rfl); (· apply PS.loadG (vs := cb A); (· rfl); (· rfl); (· exact CellsAt.all (by repeat (first | exact .head _ | apply Pick.tail | apply Upd.tail))); (· exact hA.len)); (· repeat (first | exact Sel.nil _ | (apply Sel.cons; (· repeat (first | exact .head _ | apply Pick.tail | apply Upd.tail))))))
    (apply CH.read; (· rfl); (· apply PS.loadG (vs := cb B); (· rfl); (· rfl); (· exact CellsAt.all (by repeat (first | exact .head _ | apply Pick.tail | apply Upd.tail))); (· exact hB.len)); (· repeat (first | exact Sel.nil _ | (apply Sel.cons; (· repeat (first | exact .head _ | apply Pick.tail | apply Upd.tail))))))
    refine CH.chain rfl fun K hK => ?_
    refine CX.callA (r5worth_c A hA) ?_
    rintro _ _ ⟨rfl, rfl⟩
    (refine CX.nil ?_; refine CQ.thenK ?_; apply hK; (· repeat (first | exact Sel.nil _ | (apply Sel.cons; (· repeat (first | exact .head _ | apply Pick.tail | apply Upd.tail))))); clear hK K)
    refine CH.chain rfl fun K hK => ?_
    refine CX.callA (r5worth_c B hB) ?_
    rintro _ _ ⟨rfl, rfl⟩
    (refine CX.nil ?_; refine CQ.thenK ?_; apply hK; (· repeat (first | exact Sel.nil _ | (apply Sel.cons; (· repeat (first | exact .head _ | apply Pick.tail | apply Upd.tail))))); clear hK K)
    by_cases h2 : (getM A).1 < (getM B).1
    · have e : nextM A B = 0 := by unfold nextM; rw [if_neg (by omega), if_pos h2]
      repeat (first | refine CH.pureA ?_ | refine CH.readA ?_ | refine CH.skA ?_ | refine CH.skCA ?_ | refine CH.nil ?_)
      repeat (first | refine CX.psA ?_ | refine CX.nil ?_ | refine CQ.thenN ?_ | refine CQ.thenR ?_ | refine CQ.thenX ?_ | refine CQ.blockN ?_ | refine CQ.blockR ?_ | refine CQ.blockX ?_ | refine CQ.blockYA ?_ | refine CC.seq ?_ | refine CC.block ?_ | refine CC.region ?_ | refine CC.skip ?_ | refine CC.ret ?_ | refine CC.exit ?_ | refine CC.condTA ?_ | refine CC.condFA ?_ | refine CC.condDTA ?_ | refine CC.condDFA ?_ | refine CX.storeA ?_ | refine CX.skipA ?_)
      rw [e]
      ((apply CQ.end1; (· rfl); (· exact .tmp rfl)); (· exact ⟨rfl, rfl⟩); (· repeat (first | exact Sel.nil _ | (apply Sel.cons; (· repeat (first | exact .head _ | apply Pick.tail | apply Upd.tail))))))
    · have e : nextM A B = 1 := by unfold nextM; rw [if_neg (by omega), if_neg h2]
      repeat (first | refine CH.pureA ?_ | refine CH.readA ?_ | refine CH.skA ?_ | refine CH.skCA ?_ | refine CH.nil ?_)
      repeat (first | refine CX.psA ?_ | refine CX.nil ?_ | refine CQ.thenN ?_ | refine CQ.thenR ?_ | refine CQ.thenX ?_ | refine CQ.blockN ?_ | refine CQ.blockR ?_ | refine CQ.blockX ?_ | refine CQ.blockYA ?_ | refine CC.seq ?_ | refine CC.block ?_ | refine CC.region ?_ | refine CC.skip ?_ | refine CC.ret ?_ | refine CC.exit ?_ | refine CC.condTA ?_ | refine CC.condFA ?_ | refine CC.condDTA ?_ | refine CC.condDFA ?_ | refine CX.storeA ?_ | refine CX.skipA ?_)
      rw [e]
      ((apply CQ.end1; (· rfl); (· exact .tmp rfl)); (· exact ⟨rfl, rfl⟩); (· repeat (first | exact Sel.nil _ | (apply Sel.cons; (· repeat (first | exact .head _ | apply Pick.tail | apply Upd.tail))))))
/-- Bytes with room behind them. -/
def wideB (b : Blk) : Blk := b ++ List.replicate 3 7
theorem wide_hi {B : Blk} {i : Nat} (h : B.length ≤ i) (hi : i < (wideB B).length) : (wideB B)[i] = 7 := by
  have h2 : i < B.length + 3 := by simpa [wideB] using hi
  have e : (wideB B)[i]? = some 7 := by
    rw [wideB, List.getElem?_append_right h, List.getElem?_replicate, if_pos (by omega)]
  rw [List.getElem?_eq_getElem hi] at e
  exact Option.some.inj e
theorem wide_c (B : Blk) (hB : B.length ≤ 140737488351232) (a : Option Addr) (cap : Nat) : Ctr Try.prog 33 [.slice a B.length cap] [] (fun x => rdx a B.length (cb B) x)
    (fun v M => ∃ b, v = .slice (some ⟨b, 0, none⟩) B.length (B.length + 3) ∧ M = [own 5 1 (some ⟨b, 0, none⟩) (B.length + 3) (B.length + 3) (cb (wideB B))]) := by
  refine Ctr.intro Try.func33 rfl Try.ntmps33 rfl fun x w hp => ?_
  have e0 : (B.length : Int) + 3 = ((B.length + 3 : Nat) : Int) := by omega
  repeat (first | refine CX.psA ?_ | refine CX.nil ?_ | refine CQ.thenN ?_ | refine CQ.thenR ?_ | refine CQ.thenX ?_ | refine CQ.blockN ?_ | refine CQ.blockR ?_ | refine CQ.blockX ?_ | refine CQ.blockYA ?_ | refine CC.seq ?_ | refine CC.block ?_ | refine CC.region ?_ | refine CC.skip ?_ | refine CC.ret ?_ | refine CC.exit ?_ | refine CC.condTA ?_ | refine CC.condFA ?_ | refine CC.condDTA ?_ | refine CC.condDFA ?_ | refine CX.storeA ?_ | refine CX.skipA ?_)
  rw [e0]
  (refine CX.makeB (B.length + 3) (by omega) ?_; intro b)
  repeat (first | refine CX.psA ?_ | refine CX.nil ?_ | refine CQ.thenN ?_ | refine CQ.thenR ?_ | refine CQ.thenX ?_ | refine CQ.blockN ?_ | refine CQ.blockR ?_ | refine CQ.blockX ?_ | refine CQ.blockYA ?_ | refine CC.seq ?_ | refine CC.block ?_ | refine CC.region ?_ | refine CC.skip ?_ | refine CC.ret ?_ | refine CC.exit ?_ | refine CC.condTA ?_ | refine CC.condFA ?_ | refine CC.condDTA ?_ | refine CC.condDFA ?_ | refine CX.storeA ?_ | refine CX.skipA ?_)
  refine CC.loop (X := Nat) (fun i => [(4, .int .i64 (i : Int)), (3, .slice (some ⟨b, 0, none⟩) (B.length + 3) (B.length + 3)), (0, .slice a B.length cap)])
    (fun i => [own 5 1 (some ⟨b, 0, none⟩) (B.length + 3) (B.length + 3) (cb (ins (List.replicate (B.length + 3) 0) 0 ((wideB B).take i))), exact x]) (fun i => i ≤ B.length + 3) (fun i => B.length + 3 - i) 0 (Nat.zero_le _) ⟨rfl, rfl, rfl, trivial⟩ (by simp only [List.take_zero, ins_zero]; repeat (first | exact Sel.nil _ | (apply Sel.cons; (· repeat (first | exact .head _ | apply Pick.tail | apply Upd.tail))))) ?_
  intro i hi
  have lw : (wideB B).length = B.length + 3 := by simp [wideB]
  by_cases h1 : i < B.length + 3
  · have k1 : i < (wideB B).length := by omega
    have s1 := ins_step (B := List.replicate (B.length + 3) 0) (c := wideB B) (f := 0) k1 (by simp [lw])
    rw [Nat.zero_add] at s1
    have l1 : (ins (List.replicate (B.length + 3) 0) 0 ((wideB B).take i)).length = B.length + 3 := by rw [ins_len] <;> simp [lw]; omega
    repeat (first | refine CX.psA ?_ | refine CX.nil ?_ | refine CQ.thenN ?_ | refine CQ.thenR ?_ | refine CQ.thenX ?_ | refine CQ.blockN ?_ | refine CQ.blockR ?_ | refine CQ.blockX ?_ | refine CQ.blockYA ?_ | refine CC.seq ?_ | refine CC.block ?_ | refine CC.region ?_ | refine CC.skip ?_ | refine CC.ret ?_ | refine CC.exit ?_ | refine CC.condTA ?_ | refine CC.condFA ?_ | refine CC.condDTA ?_ | refine CC.condDFA ?_ | refine CX.storeA ?_ | refine CX.skipA ?_)
    (refine CX.index0 (i) ?_ ?_; (· exact h1))
    (refine CX.storeOB (i) (7) ?_ ?_ ?_; (· omega); (· omega))
    by_cases h2 : i < B.length
    · have e1 : (wideB B)[i] = B[i] := by simp [wideB, h2]
      obtain ⟨g, off, rfl⟩ := rdx_some hp (by omega)
      repeat (first | refine CX.psA ?_ | refine CX.nil ?_ | refine CQ.thenN ?_ | refine CQ.thenR ?_ | refine CQ.thenX ?_ | refine CQ.blockN ?_ | refine CQ.blockR ?_ | refine CQ.blockX ?_ | refine CQ.blockYA ?_ | refine CC.seq ?_ | refine CC.block ?_ | refine CC.region ?_ | refine CC.skip ?_ | refine CC.ret ?_ | refine CC.exit ?_ | refine CC.condTA ?_ | refine CC.condFA ?_ | refine CC.condDTA ?_ | refine CC.condDFA ?_ | refine CX.storeA ?_ | refine CX.skipA ?_)
      (refine CX.indexA (i) ?_ ?_; (· exact h2))
      (refine CX.loadA _ (CellAt.rd (j := i) (by repeat (first | exact .head _ | apply Pick.tail | apply Upd.tail)) hp rfl h2) ?_)
      (refine CX.index0 (i) ?_ ?_; (· exact h1))
      (refine CX.storeOB (i) (B[i]) ?_ ?_ ?_; (· (rw [List.length_set]; omega)); (· (rw [List.length_set]; omega)))
      rw [List.set_set, ← e1, s1]
      repeat (first | refine CX.psA ?_ | refine CX.nil ?_ | refine CQ.thenN ?_ | refine CQ.thenR ?_ | refine CQ.thenX ?_ | refine CQ.blockN ?_ | refine CQ.blockR ?_ | refine CQ.blockX ?_ | refine CQ.blockYA ?_ | refine CC.seq ?_ | refine CC.block ?_ | refine CC.region ?_ | refine CC.skip ?_ | refine CC.ret ?_ | refine CC.exit ?_ | refine CC.condTA ?_ | refine CC.condFA ?_ | refine CC.condDTA ?_ | refine CC.condDFA ?_ | refine CX.storeA ?_ | refine CX.skipA ?_)
      exact CQ.round (i + 1) (by omega) (by omega) ⟨eqI (by omega), rfl, rfl, trivial⟩ (by repeat (first | exact Sel.nil _ | (apply Sel.cons; (· repeat (first | exact .head _ | apply Pick.tail | apply Upd.tail)))))
    · have e1 : (wideB B)[i] = 7 := wide_hi (by omega) k1
      rw [← e1, s1]
      repeat (first | refine CX.psA ?_ | refine CX.nil ?_ | refine CQ.thenN ?_ | refine CQ.thenR ?_ | refine CQ.thenX ?_ | refine CQ.blockN ?_ | refine CQ.blockR ?_ | refine CQ.blockX ?_ | refine CQ.blockYA ?_ | refine CC.seq ?_ | refine CC.block ?_ | refine CC.region ?_ | refine CC.skip ?_ | refine CC.ret ?_ | refine CC.exit ?_ | refine CC.condTA ?_ | refine CC.condFA ?_ | refine CC.condDTA ?_ | refine CC.condDFA ?_ | refine CX.storeA ?_ | refine CX.skipA ?_)
      exact CQ.round (i + 1) (by omega) (by omega) ⟨eqI (by omega), rfl, rfl, trivial⟩ (by repeat (first | exact Sel.nil _ | (apply Sel.cons; (· repeat (first | exact .head _ | apply Pick.tail | apply Upd.tail)))))
  · obtain rfl : i = B.length + 3 := by omega
    have e2 : ins (List.replicate (B.length + 3) 0) 0 ((wideB B).take (B.length + 3)) = wideB B := by
      rw [List.take_of_length_le (by omega)]
      unfold ins
      rw [List.drop_of_length_le (by simp [lw])]; simp
    rw [e2]
    repeat (first | refine CX.psA ?_ | refine CX.nil ?_ | refine CQ.thenN ?_ | refine CQ.thenR ?_ | refine CQ.thenX ?_ | refine CQ.blockN ?_ | refine CQ.blockR ?_ | refine CQ.blockX ?_ | refine CQ.blockYA ?_ | refine CC.seq ?_ | refine CC.block ?_ | refine CC.region ?_ | refine CC.skip ?_ | refine CC.ret ?_ | refine CC.exit ?_ | refine CC.condTA ?_ | refine CC.condFA ?_ | refine CC.condDTA ?_ | refine CC.condDFA ?_ | refine CX.storeA ?_ | refine CX.skipA ?_)
    refine CX.ps (PS.sliceHi (h := B.length) rfl rfl (.inr ⟨b, 0, rfl⟩) rfl rfl (by omega)) ?_
    repeat (first | refine CX.psA ?_ | refine CX.nil ?_ | refine CQ.thenN ?_ | refine CQ.thenR ?_ | refine CQ.thenX ?_ | refine CQ.blockN ?_ | refine CQ.blockR ?_ | refine CQ.blockX ?_ | refine CQ.blockYA ?_ | refine CC.seq ?_ | refine CC.block ?_ | refine CC.region ?_ | refine CC.skip ?_ | refine CC.ret ?_ | refine CC.exit ?_ | refine CC.condTA ?_ | refine CC.condFA ?_ | refine CC.condDTA ?_ | refine CC.condDFA ?_ | refine CX.storeA ?_ | refine CX.skipA ?_)
    ((apply CQ.end1; (· rfl); (· exact .tmp rfl)); (· exact ⟨b, rfl, rfl⟩); (· repeat (first | exact Sel.nil _ | (apply Sel.cons; (· repeat (first | exact .head _ | apply Pick.tail | apply Upd.tail))))))
end Go.Proofs.Ytlckhaodecdbbaa
