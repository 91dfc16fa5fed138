/- Part K5: Rf, Lv5, L5t, Sf, Sw, Sx, Sy, Sz, Cp, Hd, Hg, Dk, Dr, L4, L4b, L4c. -/
import Derived.Test.YtlckhaodecdbbaaGreatDoorK4
import Derived.Test.YtlckhaodecdbbaaGreatDoorK2
import Derived.ArgAppend
import Derived.Laws.StructEq
set_option linter.unusedVariables false
set_option linter.unusedSimpArgs false
/-! Sealed blocks, the document's way (ref 05), and what the statements share (ref 00). -/
namespace Go.Cx
theorem ins_step {B c : Blk} {f j : Nat} (hj : j < c.length) (h : f + c.length ≤ B.length) : (ins B f (c.take j)).set (f + j) c[j] = ins B f (c.take (j + 1)) := by
  have h1 : (c.take j).length = j := by simp; omega
  have h2 : (c.take (j + 1)).length = j + 1 := by simp; omega
  have h0 : (B.take f).length = f := by simp; omega
  unfold ins
  rw [List.set_append_right _ _ (by omega), h0, show f + j - f = j by omega, List.set_append_right _ _ (by omega), h1, Nat.sub_self, h2, List.drop_eq_getElem_cons (by omega), List.set_cons_zero, List.take_succ_eq_append_getElem hj, List.append_assoc]
  congr 3
theorem ins_zero {B : Blk} {f : Nat} : ins B f [] = B := by simp [ins]
theorem set_ins {B c : Blk} {f j : Nat} (hj : j < f) (h : f + c.length ≤ B.length) (y : UInt8) : (ins B f c).set j y = ins (B.set j y) f c := by
  unfold ins
  rw [List.set_append_left _ _ (by simp; omega), List.take_set, List.drop_set, if_pos (by omega)]
/-- The document's way to a sealed block. -/
def ends1 (n : Nat) : Blk := ins (ins zblk 0 (le 8 n)) 120 (le 8 (top - n))
def ends2 (n : Nat) (b : Blk) : Blk := ins (ends1 n) 8 b
theorem ends1_eq (n : Nat) : ends1 n = le 8 n ++ (List.replicate 108 0 ++ (List.replicate 4 0 ++ le 8 (top - n))) := by
  have h1 : ins zblk 0 (le 8 n) = seal1 n := rfl
  have h2 : seal1 n = (le 8 n ++ (List.replicate 108 0 ++ List.replicate 4 0)) ++ (List.replicate 8 0 ++ []) := by
    rw [seal1_eq, List.append_nil, List.append_assoc, List.append_assoc]; rfl
  have h3 := ins_mid (le 8 n ++ (List.replicate 108 0 ++ List.replicate 4 0)) (le 8 (top - n)) [] 8 120 (by simp) (by simp)
  rw [ends1, h1, h2, h3]; simp
theorem ends2_eq {n : Nat} {b : Blk} (h : b.length ≤ 108) : ends2 n b = frontB n b ++ (List.replicate 4 0 ++ le 8 (top - n)) := by
  rw [ends2, ends1_eq, ins_mid _ _ _ _ _ (by simp) h, frontB, padB]
  simp
theorem ends3_eq {n : Nat} {b : Blk} (h : b.length ≤ 108) : (ends2 n b).take 116 = frontB n b ∧ ins (ends2 n b) 116 (le 4 (crcM (frontB n b))) = sealB n b := by
  have e : (ends2 n b).take 116 = frontB n b := by
    rw [ends2_eq h, List.take_append_of_le_length (by rw [front_len h]; omega), List.take_of_length_le (by rw [front_len h]; omega)]
  refine ⟨e, ?_⟩
  have := ins_mid (frontB n b) (le 4 (crcM (frontB n b))) (le 8 (top - n)) 4 116 (front_len h) (by simp)
  rw [ends2_eq h, this, sealB]; simp
theorem ends_WB {n : Nat} {b : Blk} (h : b.length ≤ 108) : WB (ends1 n) ∧ WB (ends2 n b) := by
  refine ⟨?_, ?_⟩
  · rw [ends1_eq]; simp [WB]
  · rw [ends2_eq h]; simp [WB, front_len h]
theorem last_iff {B : Blk} (w : WB B) {m : Nat} (hm : m ≤ top) : le 8 m = B.drop 120 ↔ ofLe (B.drop 120) = m := by
  have w' : B.length = 128 := w
  constructor
  · intro h; rw [← h, ofLe8 hm]
  · intro h; rw [← h]; have := le_ofLe (B.drop 120); rwa [show (B.drop 120).length = 8 by simp; omega] at this
theorem getN_at {B : Blk} {p k : Nat} (hk : k = 1 ∨ k = 2 ∨ k = 4 ∨ k = 8) (h : p + k ≤ B.length) : getN B (p : Int) (k : Int) = (ofLe ((B.drop p).take k), 0) := by
  unfold getN
  rw [if_neg (by unfold okSize; omega), if_neg (by omega)]
  simp
end Go.Cx
namespace Go.Proofs.YtlckhaodecdbbaaGreatDoor
open Go.Cx
attribute [local irreducible] Go.Cx.CX Go.Cx.CC Go.Cx.CQ Go.Cx.PS Go.Cx.Ctr Go.Cx.CH
set_option maxRecDepth 10000
theorem ends_c (n : Nat) (hn : n ≤ top) : Ctr Tryz.prog 189 [.int .u64 (n : Int)] [] (fun _ => True)
    (fun v M => ∃ b c b' c', v = .tuple #[.slice (some ⟨b, 0, none⟩) 8 c, .slice (some ⟨b', 0, none⟩) 8 c'] ∧ M = [own 5 1 (some ⟨b', 0, none⟩) 8 c' (cb (le 8 (top - n))), own 5 1 (some ⟨b, 0, none⟩) 8 c (cb (le 8 n))]) := by
  have e : (18446744073709551615 : Int) - (n : Int) = ((top - n : Nat) : Int) := by simp only [top] at *; omega
  refine Ctr.intro Tryz.func189 rfl Tryz.ntmps189 rfl fun x w hp => ?_
  refine wk ?_
  refine CX.callA (rput_c n 8 (by omega) (by simp only [top] at hn; omega)) ?_
  rintro _ _ ⟨b, c, rfl, rfl⟩
  have h0 : (n : Int) ≤ 18446744073709551615 := by simp only [top] at hn; omega
  refine wk ?_
  rw [e]
  refine CX.callA (rput_c (top - n) 8 (by omega) (by simp only [top]; omega)) ?_
  rintro _ _ ⟨b', c', rfl, rfl⟩
  refine wk ?_
  (apply CQ.end2; (· rfl); (· exact .tmp rfl); (· exact .tmp rfl))
  · exact ⟨b, c, b', c', rfl, rfl⟩
  · exact selA
theorem r5put_c (n : Nat) (hn : n ≤ top) (body : Blk) (hb : body.length ≤ 9223372036854775807) (a : Option Addr) (cap : Nat) : Ctr Tryz.prog 175 [.int .u64 (n : Int), .slice a body.length cap] [] (fun x => rdx a body.length (cb body) x)
    (fun v M => v = .tuple #[.agg (cb (putM n body).1).toArray, .int .i64 (putM n body).2] ∧ M = []) := by
  refine Ctr.intro Tryz.func175 rfl Tryz.ntmps175 rfl fun x w hp => ?_
  refine wk ?_
  (refine CX.allocZ (cb zblk) ?_; intro r)
  refine wk ?_
  (refine CX.allocZ (cb zblk) ?_; intro s)
  refine wk ?_
  by_cases h1 : n = 0
  · have e : putM n body = (zblk, 2) := by unfold putM; rw [if_pos h1]
    rw [e]
    refine wk ?_
    ((apply CX.ps; (· apply PS.loadG (vs := cb (zblk)); (· rfl); (· rfl); (· exact CellsAt.all (by first | exact pickA | exact updA)); (· exact WB_z.len))))
    (apply CX.storeAll; (· rfl); (· rfl); (· rfl); (· first | exact pickA | exact updA); (· exact WB_z.len); (· exact WB_z.len); (· exact one_cb _))
    refine wk ?_
    ((apply CQ.end2; (· rfl); (· exact .cells inferInstance rfl (CellsAt.all (by first | exact pickA | exact updA)) (WB_z.len)); (· exact .tmp rfl)); (· exact ⟨rfl, rfl⟩); (· exact selA))
  by_cases h2 : 108 < body.length
  · have e : putM n body = (zblk, 3) := by unfold putM; rw [if_neg h1, if_pos h2]
    rw [e]
    refine wk ?_
    ((apply CX.ps; (· apply PS.loadG (vs := cb (zblk)); (· rfl); (· rfl); (· exact CellsAt.all (by first | exact pickA | exact updA)); (· exact WB_z.len))))
    (apply CX.storeAll; (· rfl); (· rfl); (· rfl); (· first | exact pickA | exact updA); (· exact WB_z.len); (· exact WB_z.len); (· exact one_cb _))
    refine wk ?_
    ((apply CQ.end2; (· rfl); (· exact .cells inferInstance rfl (CellsAt.all (by first | exact pickA | exact updA)) (WB_z.len)); (· exact .tmp rfl)); (· exact ⟨rfl, rfl⟩); (· exact selA))
  have hl : body.length ≤ 108 := by omega
  have e : putM n body = (sealB n body, 0) := by unfold putM; rw [if_neg h1, if_neg h2]
  rw [e]
  obtain ⟨w1, w2⟩ := ends_WB (n := n) hl
  obtain ⟨e3, e4⟩ := ends3_eq (n := n) hl
  have w4 := sealB_WB (n := n) hl
  refine wk ?_
  refine CX.callA (ends_c n hn) ?_
  rintro _ _ ⟨f, fc, g, gc, rfl, rfl⟩
  refine wk ?_
  refine CC.loop (X := Nat) (fun i => [(9, .int .i64 (i : Int)), (4, .pointer (some ⟨r, 0, none⟩)), (6, .pointer (some ⟨s, 0, none⟩)), (7, .slice (some ⟨f, 0, none⟩) 8 fc), (8, .slice (some ⟨g, 0, none⟩) 8 gc), (1, .slice a body.length cap)])
    (fun i => [own 5 1 (some ⟨f, 0, none⟩) 8 fc (cb (le 8 n)), own 5 1 (some ⟨g, 0, none⟩) 8 gc (cb (le 8 (top - n))), bk r 59 (cb zblk), bk s 59 (cb (ins (ins zblk 0 ((le 8 n).take i)) 120 ((le 8 (top - n)).take i))), exact x])
    (fun i => i ≤ 8) (fun i => 8 - i) 0 (Nat.zero_le _) ⟨rfl, rfl, rfl, rfl, rfl, rfl, trivial⟩ (by simp only [List.take_zero, ins_zero]; exact selA) ?_
  intro i hi
  by_cases h3 : i < 8
  · have k1 : i < (le 8 n).length := by simpa using h3
    have k2 : i < (le 8 (top - n)).length := by simpa using h3
    have l0 : (ins zblk 0 ((le 8 n).take i)).length = 128 := by rw [ins_len] <;> simp [zblk]; omega
    have l1 : (ins (ins zblk 0 ((le 8 n).take i)) 120 ((le 8 (top - n)).take i)).length = 128 := by rw [ins_len, l0]; rw [l0]; simp; omega
    have s1 : (ins (ins zblk 0 ((le 8 n).take i)) 120 ((le 8 (top - n)).take i)).set i ((le 8 n)[i]'k1) = ins (ins zblk 0 ((le 8 n).take (i + 1))) 120 ((le 8 (top - n)).take i) := by
      rw [set_ins (by omega) (by rw [l0]; simp; omega)]
      have := ins_step (B := zblk) (c := le 8 n) (f := 0) k1 (by simp [zblk])
      rw [Nat.zero_add] at this; rw [this]
    have l2 : (ins zblk 0 ((le 8 n).take (i + 1))).length = 128 := by rw [ins_len] <;> simp [zblk]; omega
    have s2 := ins_step (B := ins zblk 0 ((le 8 n).take (i + 1))) (c := le 8 (top - n)) (f := 120) k2 (by rw [l2]; simp)
    have l3 : (ins (ins zblk 0 ((le 8 n).take (i + 1))) 120 ((le 8 (top - n)).take i)).length = 128 := by rw [ins_len, l2]; rw [l2]; simp; omega
    refine wk ?_
    (refine CX.index0 (i) ?_ ?_; (· exact h3))
    (refine CX.loadA _ (CellAt.ownB (j := i) (by first | exact pickA | exact updA) k1) ?_)
    refine CX.ps (PS.indexArr (j := i) rfl rfl rfl rfl (by omega)) ?_
    (refine CX.storeBB (i) ((le 8 n)[i]'k1) ?_ ?_; (· omega))
    rw [s1]
    refine wk ?_
    (refine CX.index0 (i) ?_ ?_; (· exact h3))
    (refine CX.loadA _ (CellAt.ownB (j := i) (by first | exact pickA | exact updA) k2) ?_)
    refine CX.ps (PS.indexArr (j := 120 + i) rfl rfl rfl (by omega) (by omega)) ?_
    (refine CX.storeBB (120 + i) ((le 8 (top - n))[i]'k2) ?_ ?_; (· omega))
    rw [s2]
    refine wk ?_
    exact CQ.round (i + 1) (by omega) (by omega) ⟨eqI (by omega), rfl, rfl, rfl, rfl, rfl, trivial⟩ (by exact selA)
  obtain rfl : i = 8 := by omega
  rw [List.take_of_length_le (by simp), List.take_of_length_le (by simp), show ins (ins zblk 0 (le 8 n)) 120 (le 8 (top - n)) = ends1 n from rfl]
  refine wk ?_
  have w1' : (ends1 n).length = 128 := w1
  refine CC.loop (X := Nat) (fun i => [(10, .int .i64 (i : Int)), (4, .pointer (some ⟨r, 0, none⟩)), (6, .pointer (some ⟨s, 0, none⟩)), (1, .slice a body.length cap)])
    (fun i => [bk r 59 (cb zblk), bk s 59 (cb (ins (ends1 n) 8 (body.take i))), exact x])
    (fun i => i ≤ body.length) (fun i => body.length - i) 0 (Nat.zero_le _) ⟨rfl, rfl, rfl, rfl, trivial⟩ (by simp only [List.take_zero, ins_zero]; exact selA) ?_
  intro i hi
  by_cases h3 : i < body.length
  · obtain ⟨gg, off, rfl⟩ := rdx_some hp (by omega)
    have s1 := ins_step (B := ends1 n) (c := body) (f := 8) h3 (by omega)
    have l1 : (ins (ends1 n) 8 (body.take i)).length = 128 := by rw [ins_len, w1']; rw [w1']; simp; omega
    refine wk ?_
    (refine CX.indexA (i) ?_ ?_; (· exact h3))
    (refine CX.loadA _ (CellAt.rd (j := i) (by first | exact pickA | exact updA) hp rfl h3) ?_)
    refine CX.ps (PS.indexArr (j := 8 + i) rfl rfl rfl (by omega) (by omega)) ?_
    (refine CX.storeBB (8 + i) (body[i]) ?_ ?_; (· omega))
    rw [s1]
    refine wk ?_
    exact CQ.round (i + 1) (by omega) (by omega) ⟨eqI (by omega), rfl, rfl, rfl, trivial⟩ (by exact selA)
  obtain rfl : i = body.length := by omega
  rw [List.take_length, show ins (ends1 n) 8 body = ends2 n body from rfl]
  have w2' : (ends2 n body).length = 128 := w2
  have hl2 : ((ends2 n body).take 116).length = 116 := by simp; omega
  have hlt := crc_lt (frontB n body)
  refine wk ?_
  refine CX.ps (PS.sliceArrHi (h := 116) rfl rfl rfl rfl (by omega)) ?_
  have cc := rof_c ((ends2 n body).take 116) (by omega) (some ⟨s, 0, none⟩) 128 (by omega)
  rw [hl2] at cc
  refine CX.callA (cc) ?_ (hpre := by exact fun y hy => by have := rdx_bk (t := 59) (b := s) (B := ends2 n body) (by first | exact pickA | exact updA) 0 116 (by omega) y hy; rwa [List.drop_zero] at this)
  clear cc
  rintro _ _ ⟨rfl, rfl⟩
  rw [e3]
  refine wk ?_
  refine CX.callA (rput_c (crcM (frontB n body)) 4 (by omega) hlt) ?_
  rintro _ _ ⟨q, qc, rfl, rfl⟩
  refine wk ?_
  refine CC.loop (X := Nat) (fun i => [(13, .int .i64 (i : Int)), (4, .pointer (some ⟨r, 0, none⟩)), (6, .pointer (some ⟨s, 0, none⟩)), (11, .slice (some ⟨q, 0, none⟩) 4 qc)])
    (fun i => [own 5 1 (some ⟨q, 0, none⟩) 4 qc (cb (le 4 (crcM (frontB n body)))), bk r 59 (cb zblk), bk s 59 (cb (ins (ends2 n body) 116 ((le 4 (crcM (frontB n body))).take i))), exact x])
    (fun i => i ≤ 4) (fun i => 4 - i) 0 (Nat.zero_le _) ⟨rfl, rfl, rfl, rfl, trivial⟩ (by simp only [List.take_zero, ins_zero]; exact selA) ?_
  intro i hi
  by_cases h3 : i < 4
  · have k1 : i < (le 4 (crcM (frontB n body))).length := by simpa using h3
    have s1 := ins_step (B := ends2 n body) (c := le 4 (crcM (frontB n body))) (f := 116) k1 (by simp; omega)
    have l1 : (ins (ends2 n body) 116 ((le 4 (crcM (frontB n body))).take i)).length = 128 := by rw [ins_len, w2']; rw [w2']; simp; omega
    refine wk ?_
    (refine CX.index0 (i) ?_ ?_; (· exact h3))
    (refine CX.loadA _ (CellAt.ownB (j := i) (by first | exact pickA | exact updA) k1) ?_)
    refine CX.ps (PS.indexArr (j := 116 + i) rfl rfl rfl (by omega) (by omega)) ?_
    (refine CX.storeBB (116 + i) ((le 4 (crcM (frontB n body)))[i]) ?_ ?_; (· omega))
    rw [s1]
    refine wk ?_
    exact CQ.round (i + 1) (by omega) (by omega) ⟨eqI (by omega), rfl, rfl, rfl, trivial⟩ (by exact selA)
  obtain rfl : i = 4 := by omega
  rw [List.take_of_length_le (by simp), e4]
  refine wk ?_
  ((apply CX.ps; (· apply PS.loadG (vs := cb (sealB n body)); (· rfl); (· rfl); (· exact CellsAt.all (by first | exact pickA | exact updA)); (· exact w4.len))))
  (apply CX.storeAll; (· rfl); (· rfl); (· rfl); (· first | exact pickA | exact updA); (· exact w4.len); (· exact WB_z.len); (· exact one_cb _))
  refine wk ?_
  ((apply CQ.end2; (· rfl); (· exact .cells inferInstance rfl (CellsAt.all (by first | exact pickA | exact updA)) (w4.len)); (· exact .tmp rfl)); (· exact ⟨rfl, rfl⟩); (· exact selA))
theorem r5get_c (B : Blk) (hB : WB B) : Ctr Tryz.prog 188 [.agg (cb B).toArray] [] (fun _ => True) (GotM B) := by
  have hB' : B.length = 128 := hB
  have hl8 := valid_top hB
  have g1 := getN_at (B := B) (p := 0) (k := 8) (by omega) (by omega)
  have g2 := getN_at (B := B) (p := 116) (k := 4) (by omega) (by omega)
  rw [List.drop_zero] at g1
  have h4 := ofLe_lt ((B.drop 116).take 4)
  rw [show ((B.drop 116).take 4).length = 4 by simp; omega] at h4
  have hcr := crc_lt (B.take 116)
  have li := last_iff hB (m := top - ofLe (B.take 8)) (by omega)
  have cut0 : ∀ b : Nat, cutAt (some ⟨b, 0, none⟩) 0 128 1 = some ⟨b, 0, none⟩ := fun b => by unfold cutAt; simp [addr_add]
  have cut120 : ∀ b : Nat, cutAt (some ⟨b, 0, none⟩) 120 128 1 = some ⟨b, 120, none⟩ := fun b => by unfold cutAt; simp [addr_add]
  refine Ctr.intro Tryz.func188 rfl Tryz.ntmps188 rfl fun x w hp => ?_
  refine wk ?_
  (refine CX.boxA ?_; intro r)
  refine wk ?_
  refine CX.ps (PS.sliceArr (l := 0) (h := 128) rfl rfl rfl rfl (.inl ⟨rfl, rfl⟩) (.inl ⟨rfl, rfl⟩) (by omega) (by omega)) ?_
  rw [cut0]
  have cc := rget_c B (some ⟨r, 0, none⟩) 128 0 8 (by omega) (by omega) (by omega)
  rw [hB', show getN B 0 8 = _ from g1] at cc
  refine CX.callA (cc) ?_ (hpre := by exact full_rdx hB (by first | exact pickA | exact updA))
  clear cc
  rintro _ _ ⟨rfl, rfl⟩
  refine wk ?_
  refine CX.callA (ends_c (ofLe (B.take 8)) hl8) ?_
  rintro _ _ ⟨f, fc, g, gc, rfl, rfl⟩
  refine wk ?_
  by_cases h1 : ofLe (B.take 8) = 0
  · have e : getM B = (0, [], 5) := by unfold getM; rw [if_pos (.inl (by omega))]
    rw [h1]
    refine wk ?_
    refine CC.draw [(0, 0), (1, 0), (2, 0), (3, 0), (4, 1), (5, 0), (6, 1), (7, 0), (8, 0)] mixed rfl (by kernel_rfl) (by kernel_rfl) [bk r 59 (cb B)] ?_
    refine hwk ?_
    refine wk ?_
    refine CQ.ownNil 5 1 ?_
    (apply CQ.end3; (· rfl); (· exact .tmp rfl); (· exact .tmp rfl); (· exact .tmp rfl))
    · exact (show GotM B _ [own 5 1 none 0 0 (cb [])] from ⟨none, 0, by rw [e]; rfl, by rw [e]; rfl⟩)
    · exact selA
  refine CC.draw [(0, 0), (1, 0), (2, 0), (3, 0), (4, 1), (5, 0), (6, 1), (7, 0), (8, 0)] mixed rfl (by kernel_rfl) (by kernel_rfl) [bk r 59 (cb B), own 5 1 (some ⟨g, 0, none⟩) 8 gc (cb (le 8 (top - ofLe (B.take 8))))] ?_
  refine hwk ?_
  refine CH.read rfl (PS.toStr (b := le 8 (top - ofLe (B.take 8))) rfl rfl (by simp) (rdx_own (by first | exact pickA | exact updA) (by simp))) (by exact selA) ?_
  refine hwk ?_
  refine CH.pure rfl (PS.sliceArr (l := 120) (h := 128) rfl rfl rfl rfl (.inr ⟨_, rfl⟩) (.inl ⟨rfl, rfl⟩) (by omega) (by omega)) ?_
  rw [cut120]
  refine CH.read rfl (PS.toStr (b := B.drop 120) rfl rfl (by simp; omega) (fun y hy => by have := rdx_bk (t := 59) (b := r) (B := B) (by first | exact pickA | exact updA) 120 8 (by omega) y hy; rwa [List.take_of_length_le (by simp; omega)] at this)) (by exact selA) ?_
  refine CH.pure rfl (PS.neqStr rfl rfl rfl) ?_
  refine hwk ?_
  by_cases h2 : ofLe (B.drop 120) = top - ofLe (B.take 8)
  · have h2' : ¬ (le 8 (top - ofLe (B.take 8)) ≠ B.drop 120) := fun h => h (li.2 h2)
    refine wk ?_
    refine CX.ps (PS.sliceArr (l := 0) (h := 128) rfl rfl rfl rfl (.inl ⟨rfl, rfl⟩) (.inl ⟨rfl, rfl⟩) (by omega) (by omega)) ?_
    rw [cut0]
    have cc := rget_c B (some ⟨r, 0, none⟩) 128 116 4 (by omega) (by omega) (by omega)
    rw [hB', show getN B 116 4 = _ from g2] at cc
    refine CX.callA (cc) ?_ (hpre := by exact full_rdx hB (by first | exact pickA | exact updA))
    clear cc
    rintro _ _ ⟨rfl, rfl⟩
    refine wk ?_
    refine CX.ps (PS.sliceArrHi (h := 116) rfl rfl rfl rfl (by omega)) ?_
    have hl2 : (B.take 116).length = 116 := by simp; omega
    have cc := rof_c (B.take 116) (by omega) (some ⟨r, 0, none⟩) 128 (by omega)
    rw [hl2] at cc
    refine CX.callA (cc) ?_ (hpre := by exact fun y hy => by have := rdx_bk (t := 59) (b := r) (B := B) (by first | exact pickA | exact updA) 0 116 (by omega) y hy; rwa [List.drop_zero] at this)
    clear cc
    rintro _ _ ⟨rfl, rfl⟩
    by_cases h3 : ofLe ((B.drop 116).take 4) = crcM (B.take 116)
    · have e : getM B = (ofLe (B.take 8), (B.drop 8).take 108, 0) := by unfold getM; rw [if_neg (by omega), if_neg (by omega)]
      have hl : ((B.drop 8).take 108).length = 108 := by simp; omega
      refine wk ?_
      refine CC.ownNil 5 1 ?_
      refine CC.loop (X := Nat × Option Addr × Nat) (fun s => [(12, .int .i64 ((8 + s.1 : Nat) : Int)), (11, .slice s.2.1 s.1 s.2.2), (1, .pointer (some ⟨r, 0, none⟩)), (5, .int .u64 ((ofLe (B.take 8) : Nat) : Int))])
        (fun s => [own 5 1 s.2.1 s.1 s.2.2 (cb (((B.drop 8).take 108).take s.1)), bk r 59 (cb B), exact x]) (fun s => s.1 ≤ 108) (fun s => 108 - s.1) (0, none, 0) (Nat.zero_le _) ⟨rfl, rfl, rfl, rfl, trivial⟩ (by exact selA) ?_
      rintro ⟨i, a, c⟩ hi
      dsimp only at hi ⊢
      by_cases h5 : i < 108
      · have h6 : 8 + i < B.length := by omega
        have es : ((B.drop 8).take 108).take (i + 1) = ((B.drop 8).take 108).take i ++ [B[8 + i]] := by
          rw [List.take_succ_eq_append_getElem (by omega)]; simp
        refine wk ?_
        refine CX.ps (PS.indexArr (j := 8 + i) rfl rfl rfl rfl (by omega)) ?_
        (refine CX.loadA _ (CellAt.bkB (j := 8 + i) (by first | exact pickA | exact updA) h6) ?_)
        (refine CX.appB (B[8 + i]) ?_ ?_ ?_; (· omega); (· rfl); intro bq a' c')
        rw [← es]
        refine wk ?_
        exact CQ.round (x := (i, a, c)) (i + 1, a', c') (by dsimp only; omega) (by dsimp only; omega) ⟨eqI (by dsimp only; omega), rfl, rfl, rfl, trivial⟩ (by exact selA)
      · obtain rfl : i = 108 := by omega
        rw [show ((B.drop 8).take 108).take 108 = (B.drop 8).take 108 from List.take_of_length_le (by omega)]
        refine wk ?_
        (apply CQ.end3; (· rfl); (· exact .tmp rfl); (· exact .tmp rfl); (· exact .tmp rfl))
        · exact (show GotM B _ [own 5 1 a 108 c (cb ((B.drop 8).take 108))] from ⟨a, c, by rw [e]; dsimp only; rw [hl], by rw [e]; dsimp only; rw [hl]⟩)
        · exact selA
    · have e : getM B = (0, [], 6) := by unfold getM; rw [if_neg (by omega), if_pos h3]
      refine wk ?_
      refine CQ.ownNil 5 1 ?_
      (apply CQ.end3; (· rfl); (· exact .tmp rfl); (· exact .tmp rfl); (· exact .tmp rfl))
      · exact (show GotM B _ [own 5 1 none 0 0 (cb [])] from ⟨none, 0, by rw [e]; rfl, by rw [e]; rfl⟩)
      · exact selA
  · have e : getM B = (0, [], 5) := by unfold getM; rw [if_pos (.inr h2)]
    have h2' : le 8 (top - ofLe (B.take 8)) ≠ B.drop 120 := fun h => h2 (li.1 h)
    refine wk ?_
    refine CQ.ownNil 5 1 ?_
    (apply CQ.end3; (· rfl); (· exact .tmp rfl); (· exact .tmp rfl); (· exact .tmp rfl))
    · exact (show GotM B _ [own 5 1 none 0 0 (cb [])] from ⟨none, 0, by rw [e]; rfl, by rw [e]; rfl⟩)
    · exact selA
theorem r5worth_c (B : Blk) (hB : WB B) : Ctr Tryz.prog 176 [.agg (cb B).toArray] [] (fun _ => True) (fun v M => v = .int .u64 ((getM B).1 : Int) ∧ M = []) := by
  refine Ctr.intro Tryz.func176 rfl Tryz.ntmps176 rfl fun x w hp => ?_
  refine wk ?_
  (refine CX.boxA ?_; intro r)
  refine wk ?_
  ((apply CX.ps; (· apply PS.loadG (vs := cb (B)); (· rfl); (· rfl); (· exact CellsAt.all (by first | exact pickA | exact updA)); (· exact hB.len))))
  refine CX.callA (r5get_c B hB) ?_
  rintro _ _ ⟨a, c, rfl, rfl⟩
  refine wk ?_
  ((apply CQ.end1; (· rfl); (· exact .tmp rfl)); (· exact ⟨rfl, rfl⟩); (· exact selA))
theorem r5next_c (A B : Blk) (hA : WB A) (hB : WB B) : Ctr Tryz.prog 149 [.agg (cb A).toArray, .agg (cb B).toArray] [] (fun _ => True) (fun v M => v = .int .i64 (nextM A B) ∧ M = []) := by
  refine Ctr.intro Tryz.func149 rfl Tryz.ntmps149 rfl fun x w hp => ?_
  refine wk ?_
  (refine CX.boxA ?_; intro r)
  refine wk ?_
  (refine CX.boxA ?_; intro s)
  refine wk ?_
  refine CC.draw [(0, 1), (1, 2), (2, 0), (3, 0), (4, 1), (6, 1), (5, 2), (7, 2), (8, 0), (9, 0)] mixed rfl (by kernel_rfl) (by kernel_rfl) [bk r 59 (cb A), bk s 59 (cb B)] ?_
  (apply CH.read; (· rfl); (· apply PS.loadG (vs := cb A); (· rfl); (· rfl); (· exact CellsAt.all (by first | exact pickA | exact updA)); (· exact hA.len)); (· exact selA))
  refine CH.chain rfl fun K hK => ?_
  refine CX.callA (r5worth_c A hA) ?_
  rintro _ _ ⟨rfl, rfl⟩
  (refine CX.nil ?_; refine CQ.thenK ?_; apply hK; (· exact selA); clear hK K)
  by_cases h1 : (getM A).1 = 0
  · have e : nextM A B = 0 := by unfold nextM; split <;> first | rfl | (rw [if_pos (by omega)])
    refine hwk ?_
    refine wk ?_
    rw [e]
    ((apply CQ.end1; (· rfl); (· exact .tmp rfl)); (· exact ⟨rfl, rfl⟩); (· exact selA))
  · refine hwk ?_
    (apply CH.read; (· rfl); (· apply PS.loadG (vs := cb A); (· rfl); (· rfl); (· exact CellsAt.all (by first | exact pickA | exact updA)); (· exact hA.len)); (· exact selA))
    (apply CH.read; (· rfl); (· apply PS.loadG (vs := cb B); (· rfl); (· rfl); (· exact CellsAt.all (by first | exact pickA | exact updA)); (· exact hB.len)); (· exact selA))
    refine CH.chain rfl fun K hK => ?_
    refine CX.callA (r5worth_c A hA) ?_
    rintro _ _ ⟨rfl, rfl⟩
    (refine CX.nil ?_; refine CQ.thenK ?_; apply hK; (· exact selA); clear hK K)
    refine CH.chain rfl fun K hK => ?_
    refine CX.callA (r5worth_c B hB) ?_
    rintro _ _ ⟨rfl, rfl⟩
    (refine CX.nil ?_; refine CQ.thenK ?_; apply hK; (· exact selA); clear hK K)
    by_cases h2 : (getM A).1 < (getM B).1
    · have e : nextM A B = 0 := by unfold nextM; rw [if_neg (by omega), if_pos h2]
      refine hwk ?_
      refine wk ?_
      rw [e]
      ((apply CQ.end1; (· rfl); (· exact .tmp rfl)); (· exact ⟨rfl, rfl⟩); (· exact selA))
    · have e : nextM A B = 1 := by unfold nextM; rw [if_neg (by omega), if_neg h2]
      refine hwk ?_
      refine wk ?_
      rw [e]
      ((apply CQ.end1; (· rfl); (· exact .tmp rfl)); (· exact ⟨rfl, rfl⟩); (· exact selA))
end Go.Proofs.YtlckhaodecdbbaaGreatDoor
/-! Blocks that layer 5's statements look at first. -/
namespace Go.Cx
end Go.Cx
namespace Go.Proofs.YtlckhaodecdbbaaGreatDoor
open Go.Cx
attribute [local irreducible] Go.Cx.CX Go.Cx.CC Go.Cx.CQ Go.Cx.PS Go.Cx.Ctr Go.Cx.CH
set_option maxRecDepth 10000
end Go.Proofs.YtlckhaodecdbbaaGreatDoor
/-! What the statement SealTells does, step by step. -/
namespace Go.Proofs.YtlckhaodecdbbaaGreatDoor
open Go.Cx
attribute [local irreducible] Go.Cx.CX Go.Cx.CC Go.Cx.CQ Go.Cx.PS Go.Cx.Ctr Go.Cx.CH
set_option maxRecDepth 10000
end Go.Proofs.YtlckhaodecdbbaaGreatDoor
/-! Copies of which all the array is known (to be spoiled). -/
namespace Go.Cx
/-- A slice of bytes of whose whole array we may dispose, and know that it holds bytes. -/
@[irreducible] def ownF (e : TypeId) (a : Option Addr) (B : Blk) (c : Nat) : Assn where
  ok h := (own e 1 a B.length c (cb B)).ok h ∧ ∃ Z : Blk, Z.length = c ∧ (own e 1 a c c (cb Z)).ok h
  mono := fun _ _ l ⟨h, Z, k, m⟩ => ⟨(own _ _ _ _ _ _).mono _ _ l h, Z, k, (own _ _ _ _ _ _).mono _ _ l m⟩
theorem ownF_ok {e : TypeId} {a : Option Addr} {B : Blk} {c : Nat} {h : PH} : (ownF e a B c).ok h ↔ (own e 1 a B.length c (cb B)).ok h ∧ ∃ Z : Blk, Z.length = c ∧ (own e 1 a c c (cb Z)).ok h := by unfold ownF; exact Iff.rfl
theorem ownF_own {e : TypeId} {a : Option Addr} {B : Blk} {c : Nat} (h : PH) (s : (ownF e a B c).ok h) : (own e 1 a B.length c (cb B)).ok h := (ownF_ok.1 s).1
theorem own_take {e : TypeId} {a : Option Addr} {Z : Blk} {c m : Nat} {h : PH} (hz : Z.length = c) (hm : m ≤ c) (s : (own e 1 a c c (cb Z)).ok h) : (own e 1 a m c (cb (Z.take m))).ok h := by
  obtain ⟨h1, h2, h3, h4⟩ := own_ok.1 s
  refine own_ok.2 ⟨by simp; omega, hm, h3, h4.imp id fun ⟨g, cur, e1, e2, e3, e4⟩ => ⟨g, cur, e1, e2, e3, ?_⟩⟩
  rw [Nat.mul_one] at e4 ⊢
  rw [← cb_take, ← e4, List.take_take]
  congr 1; omega
theorem ownF_of {e : TypeId} {a : Option Addr} {Z : Blk} {c m : Nat} {B : Blk} (hz : Z.length = c) (hm : m ≤ c) (hB : Z.take m = B) (hl : B.length = m) (h : PH) (s : (own e 1 a c c (cb Z)).ok h) : (ownF e a B c).ok h :=
  ownF_ok.2 ⟨by rw [hl, ← hB]; exact own_take hz hm s, Z, hz, s⟩
theorem ownF_nil (e : TypeId) (h : PH) : (ownF e none [] 0).ok h := ownF_ok.2 ⟨own_ok.2 ⟨rfl, Nat.le_refl _, Nat.zero_le _, .inl ⟨rfl, rfl⟩⟩, [], rfl, own_ok.2 ⟨rfl, Nat.le_refl _, Nat.zero_le _, .inl ⟨rfl, rfl⟩⟩⟩
section
variable {P : Program} {ops : Array Oper} {Q : Exit → Act → World → Prop} {K : Act → World → Prop} {n : Nat} {e0 : World} {env : Env} {L M : List Assn} {rest : List Oper}
variable {dst : Option Tmp} {ty : TypeId} {pos : String} {aft : Array Edge} {g : Option (Nat × Bool)}
theorem CX.append0 {t e by_ : Nat} {z : Value} [E : ElemA P t e 1] [I : InfA P e 1 by_ z] {x y : Operand} {b0 c : Nat} {b : Addr} (h : CX P ops Q n e0 (putE env dst (.slice (some ⟨b0, 0, none⟩) 0 0)) L rest)
    (hg : gd ops n env g = some true := by rfl) (hx : ev n env x = some (.slice (some ⟨b0, 0, none⟩) 0 0) := by rfl) (hy : ev n env y = some (.slice (some b) 0 c) := by rfl) :
    CX P ops Q n e0 env L (⟨dst, .call ⟨.builtin .append, #[x, y], #[t, t]⟩, ty, pos, aft, g⟩ :: rest) := by
  refine CX.step hg fun w0 w hf hs he K hK => ?_
  obtain ⟨i, hi, hz, hsz, hby⟩ := info_parts I.inf
  have hrun := run_append_room_cells (P := P) w t ty e i E.under hi b0 0 0 0 b 0 c [] (by simp) (by intro j u hj; simp at hj) (by intro u hu; cases hu) (Nat.le_refl _) (by intro j hj; simp at hj) (by intro j hj; simp at hj)
  have hr2 : (execOp w0.eval ⟨dst, .call ⟨.builtin .append, #[x, y], #[t, t]⟩, ty, pos, aft, g⟩).run P w = .ok (.value (.slice (some ⟨b0, 0, none⟩) 0 0)) w := by
    simp [execOp, resolve, invoke, builtin, hf.eval hx, hf.eval hy, hrun, World.setCells]
  unfold Oper.wp
  rw [hr2]
  exact hK _ _ (h _ _ (hf.put dst _) hs he)
end
end Go.Cx
namespace Go.Proofs.YtlckhaodecdbbaaGreatDoor
open Go.Cx
attribute [local irreducible] Go.Cx.CX Go.Cx.CC Go.Cx.CQ Go.Cx.PS Go.Cx.Ctr Go.Cx.CH
set_option maxRecDepth 10000
theorem cloneF_c (s : SlB) (hl : s.b.length ≤ 1073741824) : Ctr Tryz.prog 84 [.slice s.a s.b.length s.c] [] (fun x => s.ok x) (fun v M => ∃ a c, v = .slice a s.b.length c ∧ M = [ownF 5 a s.b c]) := by
  obtain ⟨a, b, c⟩ := s
  dsimp only at hl ⊢
  refine Ctr.intro Tryz.func84 rfl Tryz.ntmps84 rfl fun x w hp => ?_
  cases a with
  | none =>
    obtain ⟨h1, h2⟩ := hp.nil rfl
    dsimp only at h1 h2
    subst h1; subst h2
    refine CC.give (ownF 5 none [] 0) (ownF_nil 5) ?_
    refine wk ?_
    (apply CQ.end1; (· rfl); (· exact .tmp rfl))
    · exact ⟨none, 0, rfl, rfl⟩
    · exact selA
  | some ad =>
    refine wk ?_
    refine CX.buildSl0 ?_
    intro q
    refine wk ?_
    by_cases h0 : b.length = 0
    · have hb : b = [] := List.eq_nil_of_length_eq_zero h0
      subst hb
      refine CX.append0 ?_
      refine CX.turn (ownF 5 (some ⟨q, 0, none⟩) [] 0) (fun h s => ownF_ok.2 ⟨s, [], rfl, s⟩) ?_
      refine wk ?_
      (apply CQ.end1; (· rfl); (· exact .tmp rfl))
      · exact ⟨_, _, rfl, rfl⟩
      · exact selA
    · refine CX.appendF (C := b) rfl (by omega) (by omega) (rdS_of1 (rdx_ex (by first | exact pickA | exact updA) hp.r) rfl) ?_
      intro q' cap Z hq1 hq2 hq3
      refine CX.turn (ownF 5 (some ⟨q', 0, none⟩) b cap) (ownF_of hq2 hq1 hq3 rfl) ?_
      refine wk ?_
      (apply CQ.end1; (· rfl); (· exact .tmp rfl))
      · exact ⟨_, _, rfl, rfl⟩
      · exact selA
theorem slclF_c (s : SlB) (hl : s.b.length ≤ 1073741824) : Ctr Tryz.prog 55 [.slice s.a s.b.length s.c] [] (fun x => s.ok x) (fun v M => ∃ a c, v = .slice a s.b.length c ∧ M = [ownF 5 a s.b c]) := by
  obtain ⟨a, b, c⟩ := s
  dsimp only at hl ⊢
  refine Ctr.intro Tryz.func55 rfl Tryz.ntmps55 rfl fun x w hp => ?_
  cases a with
  | none =>
    obtain ⟨h1, h2⟩ := hp.nil rfl
    dsimp only at h1 h2
    subst h1; subst h2
    refine CC.give (ownF 5 none [] 0) (ownF_nil 5) ?_
    refine wk ?_
    (apply CQ.end1; (· rfl); (· exact .tmp rfl))
    · exact ⟨none, 0, rfl, rfl⟩
    · exact selA
  | some ad =>
    refine wk ?_
    refine CX.buildSl0 ?_
    intro q
    refine wk ?_
    by_cases h0 : b.length = 0
    · have hb : b = [] := List.eq_nil_of_length_eq_zero h0
      subst hb
      refine CX.append0 ?_
      refine CX.turn (ownF 5 (some ⟨q, 0, none⟩) [] 0) (fun h s => ownF_ok.2 ⟨s, [], rfl, s⟩) ?_
      refine wk ?_
      (apply CQ.end1; (· rfl); (· exact .tmp rfl))
      · exact ⟨_, _, rfl, rfl⟩
      · exact selA
    · refine CX.appendF (C := b) rfl (by omega) (by omega) (rdS_of1 (rdx_ex (by first | exact pickA | exact updA) hp.r) rfl) ?_
      intro q' cap Z hq1 hq2 hq3
      refine CX.turn (ownF 5 (some ⟨q', 0, none⟩) b cap) (ownF_of hq2 hq1 hq3 rfl) ?_
      refine wk ?_
      (apply CQ.end1; (· rfl); (· exact .tmp rfl))
      · exact ⟨_, _, rfl, rfl⟩
      · exact selA
theorem findF_c (l : List RwV) (hl : l.length ≤ 1073741824) (hm : MayR (l.map RwV.m)) (a : Option Addr) (cap : Nat) (k : Blk) : Ctr Tryz.prog 65 [.slice a l.length cap, sv k] [] (fun x => rwAt a l x)
    (fun v M => ∃ a' B c' d, v = .tuple #[.slice a' (List.length B) c', .bool d] ∧ M = [ownF 5 a' B c'] ∧ (d = true → val (l.map RwV.m) k = some B) ∧ (d = false → val (l.map RwV.m) k = none ∧ B = [])) := by
  refine Ctr.intro Tryz.func65 rfl Tryz.ntmps65 rfl fun x w hp => ?_
  refine wk ?_
  refine CX.callA (mayR_c l (by omega) a cap) ?_ (hpre := by exact rw_ex (by first | exact pickA | exact updA) hp)
  rw [decide_eq_true hm]
  rintro _ _ ⟨rfl, rfl⟩
  refine wk ?_
  refine CX.callA (bs_c l hl hm.1 a cap k) ?_ (hpre := by exact rw_ex (by first | exact pickA | exact updA) hp)
  rintro _ _ ⟨i, d, rfl, rfl, hd1, hd2⟩
  cases d with
  | false =>
    refine CX.give (ownF 5 none [] 0) (ownF_nil 5) ?_
    refine wk ?_
    (apply CQ.end2; (· rfl); (· exact .tmp rfl); (· exact .tmp rfl))
    · refine ⟨none, [], 0, false, rfl, rfl, (fun h => by cases h), fun _ => ⟨val_none fun x hx => ?_, rfl⟩⟩
      obtain ⟨r, hr, rfl⟩ := List.mem_map.1 hx
      exact hd2 rfl r hr
    · exact selA
  | true =>
    obtain ⟨hi, hk⟩ := hd1 rfl
    obtain ⟨g, off, rfl⟩ := rwAt_some hp (by omega)
    have hv : (l[i]).s.b.length ≤ 1073741824 := by
      have := (hm.2 (l[i]).m (List.mem_map_of_mem (List.getElem_mem hi))).2.2
      have e : (l[i]).m.2.length = (l[i]).s.b.length := rfl
      omega
    refine wk ?_
    (refine CX.indexA (i) ?_ ?_; (· exact hi))
    refine wk ?_
    (apply CX.ps; (· apply PS.load (v := .slice (l[i]).s.a (l[i]).s.b.length (l[i]).s.c); (· rfl); (· rfl); (· exact hp.cell (by first | exact pickA | exact updA) hi 1 rfl)))
    refine CX.callA (cloneF_c (l[i]).s hv) ?_ (hpre := by exact fun y hy => (hp.2 l[i] (List.getElem_mem hi)).mono (Pick.ok (show Pick (exact x) _ _ from by first | exact pickA | exact updA) hy))
    rintro _ _ ⟨a', c', rfl, rfl⟩
    refine wk ?_
    (apply CQ.end2; (· rfl); (· exact .tmp rfl); (· exact .tmp rfl))
    · refine ⟨a', (l[i]).s.b, c', true, rfl, rfl, fun _ => ?_, fun h => by cases h⟩
      have := val_mem hm.1 (x := (l[i]).m) (List.mem_map_of_mem (List.getElem_mem hi))
      rw [← hk]; exact this
    · exact selA
end Go.Proofs.YtlckhaodecdbbaaGreatDoor
/-! The document's answer for layer 8 (ref 08): rows put and taken away, in the program. -/
namespace Go.Cx
theorem filter_take {α : Type} {l : List α} {i : Nat} (h : i < l.length) (p : α → Bool) : (l.take (i + 1)).filter p = (l.take i).filter p ++ (if p l[i] then [l[i]] else []) := by
  rw [List.take_add_one, List.getElem?_eq_getElem h, List.filter_append]
  congr 1
  simp only [Option.toList_some, List.filter_cons, List.filter_nil]
/-- Rows without that of a key. -/
def woV (k : Blk) (l : List RwV) : List RwV := l.filter fun r => decide (r.key ≠ k)
theorem woV_m (k : Blk) (l : List RwV) : (woV k l).map RwV.m = (l.map RwV.m).filter fun r => decide (r.1 ≠ k) := by
  unfold woV
  rw [List.filter_map]
  rfl
theorem woV_mem {k : Blk} {l : List RwV} {r : RwV} (h : r ∈ woV k l) : r ∈ l := (List.mem_filter.1 h).1
theorem woV_len (k : Blk) (l : List RwV) : (woV k l).length ≤ l.length := List.length_filter_le _ _
end Go.Cx
namespace Go.Proofs.YtlckhaodecdbbaaGreatDoor
open Go.Cx
attribute [local irreducible] Go.Cx.CX Go.Cx.CC Go.Cx.CQ Go.Cx.PS Go.Cx.Ctr Go.Cx.CH
set_option maxRecDepth 10000
theorem r8key_c (k : Blk) : Ctr Tryz.prog 74 [sv k] [] (fun _ => True) (fun v M => v = .bool (decide (1 ≤ k.length ∧ k.length ≤ 16)) ∧ M = []) := by
  refine Ctr.intro Tryz.func74 rfl Tryz.ntmps74 rfl fun x w hp => ?_
  by_cases h1 : 1 ≤ k.length
  · by_cases h2 : k.length ≤ 16
    · rw [decide_eq_true ⟨h1, h2⟩]
      refine wk ?_
      refine CX.ps (PS.lenStr rfl rfl) ?_
      refine wk ?_
      refine CX.ps (PS.lenStr rfl rfl) ?_
      refine wk ?_
      ((apply CQ.end1; (· rfl); (· exact .tmp rfl)); (· exact ⟨rfl, rfl⟩); (· exact selA))
    · rw [decide_eq_false (fun h => h2 h.2)]
      refine wk ?_
      refine CX.ps (PS.lenStr rfl rfl) ?_
      refine wk ?_
      refine CX.ps (PS.lenStr rfl rfl) ?_
      refine wk ?_
      ((apply CQ.end1; (· rfl); (· exact .tmp rfl)); (· exact ⟨rfl, rfl⟩); (· exact selA))
  · rw [decide_eq_false (fun h => h1 h.1)]
    refine wk ?_
    refine CX.ps (PS.lenStr rfl rfl) ?_
    refine wk ?_
    ((apply CQ.end1; (· rfl); (· exact .tmp rfl)); (· exact ⟨rfl, rfl⟩); (· exact selA))
theorem r8wo_c (l : List RwV) (hl : l.length ≤ 1073741824) (a : Option Addr) (c : Nat) (k : Blk) : Ctr Tryz.prog 40 [.slice a l.length c, sv k] [] (fun x => rwAt a l x)
    (fun v M => ∃ a' c', v = .slice a' (woV k l).length c' ∧ M = [own 71 2 a' (woV k l).length c' (rows RwV.cells (woV k l))]) := by
  refine Ctr.intro Tryz.func40 rfl Tryz.ntmps40 rfl fun x w hp => ?_
  refine CC.ownNil 71 2 ?_
  refine wk ?_
  refine CC.loop (X := Nat × Option Addr × Nat) (fun s => [(6, .int .i64 (s.1 : Int)), (5, .slice s.2.1 (woV k (l.take s.1)).length s.2.2), (0, .slice a l.length c), (1, sv k)])
    (fun s => [own 71 2 s.2.1 (woV k (l.take s.1)).length s.2.2 (rows RwV.cells (woV k (l.take s.1))), exact x]) (fun s => s.1 ≤ l.length) (fun s => l.length - s.1) (0, none, 0) (Nat.zero_le _) ⟨rfl, rfl, rfl, rfl, trivial⟩ (by exact selA) ?_
  rintro ⟨i, a5, c5⟩ hi
  dsimp only at hi ⊢
  by_cases h1 : i < l.length
  rotate_left
  · rw [show l.take i = l from List.take_of_length_le (by omega)]
    refine wk ?_
    (apply CQ.end1; (· rfl); (· exact .tmp rfl))
    · exact ⟨a5, c5, rfl, rfl⟩
    · exact selA
  obtain ⟨g, off, rfl⟩ := rwAt_some hp (by omega)
  have hlen : (woV k (l.take i)).length ≤ i := Nat.le_trans (woV_len _ _) (by simp; omega)
  have hft := filter_take h1 (fun r : RwV => decide (r.key ≠ k))
  by_cases hk : (l[i]).key = k
  · have e : woV k (l.take (i + 1)) = woV k (l.take i) := by unfold woV; rw [hft, if_neg (by simp [hk]), List.append_nil]
    refine wk ?_
    (refine CX.indexA (i) ?_ ?_; (· exact h1))
    refine wk ?_
    (apply CX.ps; (· apply PS.load (v := sv (l[i]).key); (· rfl); (· rfl); (· exact hp.cell (by first | exact pickA | exact updA) h1 0 rfl)))
    refine wk ?_
    refine CX.ps ((PS.neqStr (a := (l[i]).key) (b := k) rfl rfl rfl).toF (fun h => h hk)) ?_
    refine wk ?_
    refine CQ.round (x := (i, a5, c5)) (i + 1, a5, c5) h1 (by dsimp only; omega) ?_ (by dsimp only; rw [e]; exact selA)
    dsimp only
    rw [e]
    exact ⟨eqI (by omega), rfl, rfl, rfl, trivial⟩
  · have e : woV k (l.take (i + 1)) = woV k (l.take i) ++ [l[i]] := by unfold woV; rw [hft, if_pos (by simp [hk])]
    have e2 : rows RwV.cells (woV k (l.take i)) ++ (l[i]).cells = rows RwV.cells (woV k (l.take (i + 1))) := by rw [e, rows_append]; simp [rows]
    refine wk ?_
    (refine CX.indexA (i) ?_ ?_; (· exact h1))
    refine wk ?_
    (apply CX.ps; (· apply PS.load (v := sv (l[i]).key); (· rfl); (· rfl); (· exact hp.cell (by first | exact pickA | exact updA) h1 0 rfl)))
    refine wk ?_
    refine CX.ps ((PS.neqStr (a := (l[i]).key) (b := k) rfl rfl rfl).toT hk) ?_
    refine wk ?_
    (refine CX.indexA (i) ?_ ?_; (· exact h1))
    (apply CX.ps; (· apply PS.loadG (vs := (l[i]).cells); (· rfl); (· rfl); (· exact hp.cells (by first | exact pickA | exact updA) h1); (· rfl)))
    refine CX.buildSl (parts := [(0, _)]) (vs := [(0, .agg (l[i]).cells.toArray)]) (out := (l[i]).cells) rfl rfl (by decide) (by simp [fillL, Value.cells, setL, RwV.cells]) fun bq => ?_
    refine CX.append (m := 1) (news := (l[i]).cells) rfl rfl rfl (by first | exact pickA | exact updA) (RdS.pick (b := bq) (o := 0) (by first | exact pickA | exact updA) rfl (one_all rfl) rfl) (by omega) (fun h => by cases h) ?_
    intro a3 c3
    rw [e2]
    have e3 : (woV k (l.take i)).length + 1 = (woV k (l.take (i + 1))).length := by rw [e]; simp
    rw [e3]
    refine wk ?_
    exact CQ.round (x := (i, a5, c5)) (i + 1, a3, c3) h1 (by dsimp only; omega) ⟨eqI (by omega), rfl, rfl, rfl, trivial⟩ (by exact selA)
end Go.Proofs.YtlckhaodecdbbaaGreatDoor
/-! ref 08: a row put where it belongs, in the program. -/
namespace Go.Cx
theorem CC.share {P : Program} {n : Nat} {e0 : World} {X : Type} (E : X → Env) (M : X → List Assn) (good : X → Prop) {c : Code} {Q : Exit → Act → World → Prop} {goal : Prop}
    (h1 : (∀ s, good s → CC P c Q n e0 (E s) (M s)) → goal) (h2 : ∀ s, good s → CC P c Q n e0 (E s) (M s)) : goal := h1 h2
theorem pgK_cons {α : Type} (key : α → Blk) (x r : α) (d : Bool) (t : List α) : pgK key x d (r :: t) = (if d = false ∧ klt (key r) (key x) = false then [x] else []) ++ (if key r = key x then [] else [r]) ++ pgK key x (d || !klt (key r) (key x)) t := by rw [pgK]
end Go.Cx
namespace Go.Proofs.YtlckhaodecdbbaaGreatDoor
open Go.Cx
attribute [local irreducible] Go.Cx.CX Go.Cx.CC Go.Cx.CQ Go.Cx.PS Go.Cx.Ctr Go.Cx.CH
set_option maxRecDepth 10000
theorem r8ins_c (l : List RwV) (hl : l.length ≤ 1073741824) (a : Option Addr) (c : Nat) (q : RwV) : Ctr Tryz.prog 41 [.slice a l.length c, .agg q.cells.toArray] [] (fun x => rwAt a l x)
    (fun v M => ∃ a' c' r, r = pgK rwKey q false l ∧ v = .slice a' (List.length r) c' ∧ M = [own 71 2 a' (List.length r) c' (rows RwV.cells r)]) := by
  have hfl := pgK_len rwKey q false l
  obtain ⟨F, hF⟩ : ∃ F, F = pgK rwKey q false l := ⟨_, rfl⟩
  rw [← hF] at hfl ⊢
  simp only [Bool.false_eq_true, if_false] at hfl
  refine Ctr.intro Tryz.func41 rfl Tryz.ntmps41 rfl fun x w hp => ?_
  refine wk ?_
  (refine CX.boxA (vs := q.cells) ?_; intro bx)
  refine CX.ownNil 71 2 ?_
  refine wk ?_
  refine CC.loop (X := Nat × Bool × Option Addr × Nat × List RwV) (fun s => [(7, .int .i64 (s.1 : Int)), (6, .bool s.2.1), (5, .slice s.2.2.1 s.2.2.2.2.length s.2.2.2.1), (3, .pointer (some ⟨bx, 0, none⟩)), (0, .slice a l.length c)])
    (fun s => [own 71 2 s.2.2.1 s.2.2.2.2.length s.2.2.2.1 (rows RwV.cells s.2.2.2.2), bk bx 71 q.cells, exact x]) (fun s => s.1 ≤ l.length ∧ s.2.2.2.2 ++ pgK rwKey q s.2.1 (l.drop s.1) = F) (fun s => l.length - s.1) (0, false, none, 0, []) ⟨Nat.zero_le _, by rw [hF]; rfl⟩ ⟨rfl, rfl, rfl, rfl, rfl, trivial⟩ (by exact selA) ?_
  rintro ⟨i, d, a5, c5, o⟩ ⟨hi, ho⟩
  dsimp only at hi ho ⊢
  have hol : o.length ≤ l.length + 1 := by have := congrArg List.length ho; rw [List.length_append] at this; omega
  by_cases h1 : i < l.length
  rotate_left
  · rw [List.drop_of_length_le (by omega), pgK] at ho
    cases d with
    | true =>
      rw [if_pos rfl, List.append_nil] at ho
      subst ho
      refine wk ?_
      (apply CQ.end1; (· rfl); (· exact .tmp rfl))
      · exact ⟨a5, c5, o, rfl, rfl, rfl⟩
      · exact selA
    | false =>
      rw [if_neg (by simp)] at ho
      have e2 : rows RwV.cells o ++ q.cells = rows RwV.cells F := by rw [← ho, rows_append]; simp [rows]
      have e3 : o.length + 1 = F.length := by rw [← ho]; simp
      refine wk ?_
      (apply CX.ps; (· apply PS.loadG (vs := q.cells); (· rfl); (· rfl); (· exact CellsAt.all (by first | exact pickA | exact updA)); (· rfl)))
      refine CX.buildSl (parts := [(0, _)]) (vs := [(0, .agg q.cells.toArray)]) (out := q.cells) rfl rfl (by decide) (by simp [fillL, Value.cells, setL, RwV.cells]) fun bq => ?_
      refine CX.append (m := 1) (news := q.cells) rfl rfl rfl (by first | exact pickA | exact updA) (RdS.pick (b := bq) (o := 0) (by first | exact pickA | exact updA) rfl (one_all rfl) rfl) (by omega) (fun h => by cases h) ?_
      intro a3 c3
      rw [e2, e3]
      refine wk ?_
      (apply CQ.end1; (· rfl); (· exact .tmp rfl))
      · exact ⟨a3, c3, F, rfl, rfl, rfl⟩
      · exact selA
  obtain ⟨g, off, rfl⟩ := rwAt_some hp (by omega)
  rw [List.drop_eq_getElem_cons h1, pgK_cons, ← List.append_assoc, ← List.append_assoc] at ho
  apply CC.share (P := Tryz.prog) (n := 52) (e0 := w) (X := Bool × Option Addr × Nat × List RwV) (fun s => [(7, .int .i64 (i : Int)), (6, .bool s.1), (5, .slice s.2.1 s.2.2.2.length s.2.2.1), (3, .pointer (some ⟨bx, 0, none⟩)), (0, .slice (some ⟨g, off, none⟩) l.length c)])
    (fun s => [own 71 2 s.2.1 s.2.2.2.length s.2.2.1 (rows RwV.cells s.2.2.2), bk bx 71 q.cells, exact x]) (fun s => s.2.2.2 ++ (if rwKey l[i] = rwKey q then [] else [l[i]]) ++ pgK rwKey q s.1 (l.drop (i + 1)) = F)
  · intro fin
    cases d with
    | true =>
      rw [if_neg (by simp), List.append_nil, Bool.true_or] at ho
      refine wk ?_
      refine CC.draw [(0, 0), (1, 0), (2, 0), (3, 0), (4, 0), (5, 0), (6, 0), (7, 1), (8, 0), (9, 1), (10, 0), (11, 0)] mixed rfl (by kernel_rfl) (by kernel_rfl) [bk bx 71 q.cells, exact x] ?_
      refine hwk ?_
      refine wk ?_
      have f := fin (true, a5, c5, o) ho
      apply CC.weak (h := f)
      · exact ⟨rfl, rfl, rfl, rfl, rfl, trivial⟩
      · exact selA
    | false =>
      rw [Bool.false_or] at ho
      by_cases hk : klt (rwKey l[i]) (rwKey q) = true
      · rw [if_neg (by simp [hk]), List.append_nil, hk] at ho
        refine wk ?_
        refine CC.draw [(0, 0), (1, 0), (2, 0), (3, 0), (4, 0), (5, 0), (6, 0), (7, 1), (8, 0), (9, 1), (10, 0), (11, 0)] mixed rfl (by kernel_rfl) (by kernel_rfl) [bk bx 71 q.cells, exact x] ?_
        refine hwk ?_
        refine CH.pure rfl (PS.indexAddr (j := i) rfl rfl rfl rfl h1) ?_
        refine hwk ?_
        (apply CH.read; (· rfl); (· apply PS.load (v := sv (l[i]).key); (· rfl); (· rfl); (· exact hp.cell (by first | exact pickA | exact updA) h1 0 rfl)); (· exact selA))
        refine hwk ?_
        refine CH.pure rfl (PS.geqStr (a := (l[i]).key) (b := q.key) false (by rw [show klt (l[i]).key q.key = true from hk]; rfl)) ?_
        refine hwk ?_
        refine wk ?_
        have f := fin (false, a5, c5, o) ho
        apply CC.weak (h := f)
        · exact ⟨rfl, rfl, rfl, rfl, rfl, trivial⟩
        · exact selA
      · have hk' : klt (rwKey l[i]) (rwKey q) = false := by simpa using hk
        rw [if_pos ⟨rfl, hk'⟩, hk'] at ho
        have e2 : rows RwV.cells o ++ q.cells = rows RwV.cells (o ++ [q]) := by rw [rows_append]; simp [rows]
        have e3 : o.length + 1 = (o ++ [q]).length := by simp
        refine wk ?_
        refine CC.draw [(0, 0), (1, 0), (2, 0), (3, 0), (4, 0), (5, 0), (6, 0), (7, 1), (8, 0), (9, 1), (10, 0), (11, 0)] mixed rfl (by kernel_rfl) (by kernel_rfl) [bk bx 71 q.cells, exact x] ?_
        refine hwk ?_
        refine CH.pure rfl (PS.indexAddr (j := i) rfl rfl rfl rfl h1) ?_
        refine hwk ?_
        (apply CH.read; (· rfl); (· apply PS.load (v := sv (l[i]).key); (· rfl); (· rfl); (· exact hp.cell (by first | exact pickA | exact updA) h1 0 rfl)); (· exact selA))
        refine hwk ?_
        refine CH.pure rfl (PS.geqStr (a := (l[i]).key) (b := q.key) true (by rw [show klt (l[i]).key q.key = false from hk']; rfl)) ?_
        refine hwk ?_
        refine wk ?_
        (apply CX.ps; (· apply PS.loadG (vs := q.cells); (· rfl); (· rfl); (· exact CellsAt.all (by first | exact pickA | exact updA)); (· rfl)))
        refine CX.buildSl (parts := [(0, _)]) (vs := [(0, .agg q.cells.toArray)]) (out := q.cells) rfl rfl (by decide) (by simp [fillL, Value.cells, setL, RwV.cells]) fun bq => ?_
        refine CX.append (m := 1) (news := q.cells) rfl rfl rfl (by first | exact pickA | exact updA) (RdS.pick (b := bq) (o := 0) (by first | exact pickA | exact updA) rfl (one_all rfl) rfl) (by omega) (fun h => by cases h) ?_
        intro a3 c3
        rw [e2, e3]
        refine wk ?_
        have f := fin (true, a3, c3, o ++ [q]) ho
        apply CC.weak (h := f)
        · exact ⟨rfl, rfl, rfl, rfl, rfl, trivial⟩
        · exact selA
  · rintro ⟨d', a6, c6, o'⟩ ho'
    dsimp only at ho' ⊢
    have hol' : o'.length ≤ l.length + 1 := by have := congrArg List.length ho'; rw [List.length_append, List.length_append] at this; omega
    by_cases hk : rwKey l[i] = rwKey q
    · rw [if_pos hk, List.append_nil] at ho'
      refine CC.draw [(0, 0), (1, 0), (2, 0), (3, 0), (4, 1), (5, 0), (6, 1), (7, 0)] mixed rfl (by kernel_rfl) (by kernel_rfl) [bk bx 71 q.cells, exact x] ?_
      refine hwk ?_
      refine CH.pure rfl (PS.indexAddr (j := i) rfl rfl rfl rfl h1) ?_
      refine hwk ?_
      (apply CH.read; (· rfl); (· apply PS.load (v := sv (l[i]).key); (· rfl); (· rfl); (· exact hp.cell (by first | exact pickA | exact updA) h1 0 rfl)); (· exact selA))
      refine hwk ?_
      refine CH.pure rfl ((PS.neqStr (a := (l[i]).key) (b := q.key) rfl rfl rfl).toF (fun h => h hk)) ?_
      refine hwk ?_
      refine wk ?_
      exact CQ.round (x := (i, d, a5, c5, o)) (i + 1, d', a6, c6, o') ⟨h1, ho'⟩ (by dsimp only; omega) ⟨eqI (by omega), rfl, rfl, rfl, rfl, trivial⟩ (by exact selA)
    · rw [if_neg hk] at ho'
      have e2 : rows RwV.cells o' ++ (l[i]).cells = rows RwV.cells (o' ++ [l[i]]) := by rw [rows_append]; simp [rows]
      have e3 : o'.length + 1 = (o' ++ [l[i]]).length := by simp
      refine CC.draw [(0, 0), (1, 0), (2, 0), (3, 0), (4, 1), (5, 0), (6, 1), (7, 0)] mixed rfl (by kernel_rfl) (by kernel_rfl) [bk bx 71 q.cells, exact x] ?_
      refine hwk ?_
      refine CH.pure rfl (PS.indexAddr (j := i) rfl rfl rfl rfl h1) ?_
      refine hwk ?_
      (apply CH.read; (· rfl); (· apply PS.load (v := sv (l[i]).key); (· rfl); (· rfl); (· exact hp.cell (by first | exact pickA | exact updA) h1 0 rfl)); (· exact selA))
      refine hwk ?_
      refine CH.pure rfl ((PS.neqStr (a := (l[i]).key) (b := q.key) rfl rfl rfl).toT hk) ?_
      refine hwk ?_
      refine wk ?_
      (refine CX.indexA (i) ?_ ?_; (· exact h1))
      (apply CX.ps; (· apply PS.loadG (vs := (l[i]).cells); (· rfl); (· rfl); (· exact hp.cells (by first | exact pickA | exact updA) h1); (· rfl)))
      refine CX.buildSl (parts := [(0, _)]) (vs := [(0, .agg (l[i]).cells.toArray)]) (out := (l[i]).cells) rfl rfl (by decide) (by simp [fillL, Value.cells, setL, RwV.cells]) fun bq => ?_
      refine CX.append (m := 1) (news := (l[i]).cells) rfl rfl rfl (by first | exact pickA | exact updA) (RdS.pick (b := bq) (o := 0) (by first | exact pickA | exact updA) rfl (one_all rfl) rfl) (by omega) (fun h => by cases h) ?_
      intro a3 c3
      rw [e2, e3]
      refine wk ?_
      exact CQ.round (x := (i, d, a5, c5, o)) (i + 1, d', a3, c3, o' ++ [l[i]]) ⟨h1, ho'⟩ (by dsimp only; omega) ⟨eqI (by omega), rfl, rfl, rfl, rfl, trivial⟩ (by exact selA)
end Go.Proofs.YtlckhaodecdbbaaGreatDoor
/-! ref 08: which rows and changes may be, in the program. -/
namespace Go.Cx
theorem mayR_of {l : List RwV} (h1 : ∀ i (h : i < l.length), okR (l[i]).m) (h2 : ∀ j (h : j + 1 < l.length), klt (rwKey (l[j]'(by omega))) (rwKey l[j + 1]) = true) : MayR (l.map RwV.m) :=
  ⟨(risR_iff l).2 (pw_adj rwKey l h2), fun c hc => by
    obtain ⟨r, hr, rfl⟩ := List.mem_map.1 hc
    obtain ⟨i, hi, rfl⟩ := List.getElem_of_mem hr
    exact h1 i hi⟩
theorem mayR_ok {l : List RwV} (h : MayR (l.map RwV.m)) (i : Nat) (hi : i < l.length) : okR (l[i]).m := h.2 _ (List.mem_map_of_mem (List.getElem_mem hi))
theorem mayR_adj {l : List RwV} (h : MayR (l.map RwV.m)) (j : Nat) (hj : j + 1 < l.length) : klt (rwKey (l[j]'(by omega))) (rwKey l[j + 1]) = true := adj_pw rwKey ((risR_iff l).1 h.1) j hj
theorem mayC_of {l : List ChV} (h1 : ∀ i (h : i < l.length), (l[i]).m.ok) (h2 : ∀ j (h : j + 1 < l.length), klt (chKey (l[j]'(by omega))) (chKey l[j + 1]) = true) : MayC (l.map ChV.m) :=
  ⟨(risC_iff l).2 (pw_adj chKey l h2), fun c hc => by
    obtain ⟨r, hr, rfl⟩ := List.mem_map.1 hc
    obtain ⟨i, hi, rfl⟩ := List.getElem_of_mem hr
    exact h1 i hi⟩
theorem mayC_ok {l : List ChV} (h : MayC (l.map ChV.m)) (i : Nat) (hi : i < l.length) : (l[i]).m.ok := h.2 _ (List.mem_map_of_mem (List.getElem_mem hi))
theorem mayC_adj {l : List ChV} (h : MayC (l.map ChV.m)) (j : Nat) (hj : j + 1 < l.length) : klt (chKey (l[j]'(by omega))) (chKey l[j + 1]) = true := adj_pw chKey ((risC_iff l).1 h.1) j hj
end Go.Cx
namespace Go.Proofs.YtlckhaodecdbbaaGreatDoor
open Go.Cx
attribute [local irreducible] Go.Cx.CX Go.Cx.CC Go.Cx.CQ Go.Cx.PS Go.Cx.Ctr Go.Cx.CH
set_option maxRecDepth 10000
theorem r8may_c (l : List RwV) (hl : l.length ≤ 1073741824) (a : Option Addr) (c : Nat) : Ctr Tryz.prog 38 [.slice a l.length c] [] (fun x => rwAt a l x) (fun v M => v = .bool (decide (MayR (l.map RwV.m))) ∧ M = []) := by
  refine Ctr.intro Tryz.func38 rfl Tryz.ntmps38 rfl fun x w hp => ?_
  refine wk ?_
  refine CC.loop (X := Nat) (fun i => [(3, .int .i64 (i : Int)), (0, .slice a l.length c)]) (fun i => [exact x])
    (fun i => i ≤ l.length ∧ (∀ j (h : j < l.length), j < i → okR (l[j]).m) ∧ ∀ j (h : j + 1 < l.length), j + 1 < i → klt (rwKey (l[j]'(by omega))) (rwKey l[j + 1]) = true) (fun i => l.length - i) 0 ⟨Nat.zero_le _, fun j h h0 => by omega, fun j h h0 => by omega⟩ ⟨rfl, rfl, trivial⟩ (by exact selA) ?_
  rintro i ⟨hi, hok, hadj⟩
  by_cases h1 : i < l.length
  rotate_left
  · rw [decide_eq_true (mayR_of (fun j h => hok j h (by omega)) fun j h => hadj j h (by omega))]
    refine wk ?_
    ((apply CQ.end1; (· rfl); (· exact .tmp rfl)); (· exact ⟨rfl, rfl⟩); (· exact selA))
  obtain ⟨g, off, rfl⟩ := rwAt_some hp (by omega)
  by_cases k1 : 1 ≤ (l[i]).key.length ∧ (l[i]).key.length ≤ 16
  rotate_left
  · rw [decide_eq_false (fun h => k1 ⟨(mayR_ok h i h1).1, (mayR_ok h i h1).2.1⟩)]
    refine wk ?_
    refine CC.draw [(0, 0), (1, 0), (2, 0), (3, 0), (4, 1), (5, 2), (6, 0), (7, 0), (8, 0), (9, 0), (10, 0), (11, 0), (12, 1), (13, 0), (14, 0), (15, 0), (16, 0), (17, 0), (18, 0), (19, 0), (20, 0), (21, 0), (22, 0), (23, 0), (24, 0), (25, 1), (26, 0), (27, 0), (28, 0), (29, 0), (30, 1), (31, 0), (32, 0), (33, 0)] mixed rfl (by kernel_rfl) (by kernel_rfl) [exact x] ?_
    refine hwk ?_
    refine CH.pure rfl (PS.indexAddr (j := i) rfl rfl rfl rfl h1) ?_
    refine hwk ?_
    (apply CH.read; (· rfl); (· apply PS.load (v := sv (l[i]).key); (· rfl); (· rfl); (· exact hp.cell (by first | exact pickA | exact updA) h1 0 rfl)); (· exact selA))
    refine CH.chain rfl fun K hK => ?_
    refine CX.callA (r8key_c (l[i]).key) ?_
    rw [decide_eq_false k1]
    rintro _ _ ⟨rfl, rfl⟩
    (refine CX.nil ?_; refine CQ.thenK ?_; apply hK; (· exact selA); clear hK K)
    refine hwk ?_
    refine wk ?_
    ((apply CQ.end1; (· rfl); (· exact .tmp rfl)); (· exact ⟨rfl, rfl⟩); (· exact selA))
  by_cases k2 : (l[i]).s.b.length ≤ 1048576
  rotate_left
  · rw [decide_eq_false (fun h => k2 (mayR_ok h i h1).2.2)]
    have k2' : 1048576 < (l[i]).s.b.length := by omega
    refine wk ?_
    refine CC.draw [(0, 0), (1, 0), (2, 0), (3, 0), (4, 1), (5, 2), (6, 0), (7, 0), (8, 0), (9, 0), (10, 0), (11, 0), (12, 1), (13, 0), (14, 0), (15, 0), (16, 0), (17, 0), (18, 0), (19, 0), (20, 0), (21, 0), (22, 0), (23, 0), (24, 0), (25, 1), (26, 0), (27, 0), (28, 0), (29, 0), (30, 1), (31, 0), (32, 0), (33, 0)] mixed rfl (by kernel_rfl) (by kernel_rfl) [exact x] ?_
    refine hwk ?_
    refine CH.pure rfl (PS.indexAddr (j := i) rfl rfl rfl rfl h1) ?_
    refine hwk ?_
    (apply CH.read; (· rfl); (· apply PS.load (v := sv (l[i]).key); (· rfl); (· rfl); (· exact hp.cell (by first | exact pickA | exact updA) h1 0 rfl)); (· exact selA))
    refine CH.chain rfl fun K hK => ?_
    refine CX.callA (r8key_c (l[i]).key) ?_
    rw [decide_eq_true k1]
    rintro _ _ ⟨rfl, rfl⟩
    (refine CX.nil ?_; refine CQ.thenK ?_; apply hK; (· exact selA); clear hK K)
    refine hwk ?_
    refine CH.pure rfl (PS.indexAddr (j := i) rfl rfl rfl rfl h1) ?_
    refine hwk ?_
    (apply CH.read; (· rfl); (· apply PS.load (v := .slice (l[i]).s.a (l[i]).s.b.length (l[i]).s.c); (· rfl); (· rfl); (· exact hp.cell (by first | exact pickA | exact updA) h1 1 rfl)); (· exact selA))
    refine hwk ?_
    refine wk ?_
    ((apply CQ.end1; (· rfl); (· exact .tmp rfl)); (· exact ⟨rfl, rfl⟩); (· exact selA))
  have hok' : ∀ j (h : j < l.length), j < i + 1 → okR (l[j]).m := fun j h hj => by
    by_cases e : j = i
    · subst e; exact ⟨k1.1, k1.2, k2⟩
    · exact hok j h (by omega)
  by_cases h0 : i = 0
  · refine wk ?_
    refine CC.draw [(0, 0), (1, 0), (2, 0), (3, 0), (4, 1), (5, 2), (6, 0), (7, 0), (8, 0), (9, 0), (10, 0), (11, 0), (12, 1), (13, 0), (14, 0), (15, 0), (16, 0), (17, 0), (18, 0), (19, 0), (20, 0), (21, 0), (22, 0), (23, 0), (24, 0), (25, 1), (26, 0), (27, 0), (28, 0), (29, 0), (30, 1), (31, 0), (32, 0), (33, 0)] mixed rfl (by kernel_rfl) (by kernel_rfl) [exact x] ?_
    refine hwk ?_
    refine CH.pure rfl (PS.indexAddr (j := i) rfl rfl rfl rfl h1) ?_
    refine hwk ?_
    (apply CH.read; (· rfl); (· apply PS.load (v := sv (l[i]).key); (· rfl); (· rfl); (· exact hp.cell (by first | exact pickA | exact updA) h1 0 rfl)); (· exact selA))
    refine CH.chain rfl fun K hK => ?_
    refine CX.callA (r8key_c (l[i]).key) ?_
    rw [decide_eq_true k1]
    rintro _ _ ⟨rfl, rfl⟩
    (refine CX.nil ?_; refine CQ.thenK ?_; apply hK; (· exact selA); clear hK K)
    refine hwk ?_
    refine CH.pure rfl (PS.indexAddr (j := i) rfl rfl rfl rfl h1) ?_
    refine hwk ?_
    (apply CH.read; (· rfl); (· apply PS.load (v := .slice (l[i]).s.a (l[i]).s.b.length (l[i]).s.c); (· rfl); (· rfl); (· exact hp.cell (by first | exact pickA | exact updA) h1 1 rfl)); (· exact selA))
    refine hwk ?_
    refine wk ?_
    exact CQ.round (i + 1) ⟨h1, hok', fun j h hj => by omega⟩ (by omega) ⟨eqI (by omega), rfl, trivial⟩ (by exact selA)
  have h2 : i - 1 < l.length := by omega
  have h0' : 0 < i := by omega
  by_cases k3 : klt (rwKey l[i - 1]) (rwKey l[i]) = true
  · refine wk ?_
    refine CC.draw [(0, 0), (1, 0), (2, 0), (3, 0), (4, 1), (5, 2), (6, 0), (7, 0), (8, 0), (9, 0), (10, 0), (11, 0), (12, 1), (13, 0), (14, 0), (15, 0), (16, 0), (17, 0), (18, 0), (19, 0), (20, 0), (21, 0), (22, 0), (23, 0), (24, 0), (25, 1), (26, 0), (27, 0), (28, 0), (29, 0), (30, 1), (31, 0), (32, 0), (33, 0)] mixed rfl (by kernel_rfl) (by kernel_rfl) [exact x] ?_
    refine hwk ?_
    refine CH.pure rfl (PS.indexAddr (j := i) rfl rfl rfl rfl h1) ?_
    refine hwk ?_
    (apply CH.read; (· rfl); (· apply PS.load (v := sv (l[i]).key); (· rfl); (· rfl); (· exact hp.cell (by first | exact pickA | exact updA) h1 0 rfl)); (· exact selA))
    refine CH.chain rfl fun K hK => ?_
    refine CX.callA (r8key_c (l[i]).key) ?_
    rw [decide_eq_true k1]
    rintro _ _ ⟨rfl, rfl⟩
    (refine CX.nil ?_; refine CQ.thenK ?_; apply hK; (· exact selA); clear hK K)
    refine hwk ?_
    refine CH.pure rfl (PS.indexAddr (j := i) rfl rfl rfl rfl h1) ?_
    refine hwk ?_
    (apply CH.read; (· rfl); (· apply PS.load (v := .slice (l[i]).s.a (l[i]).s.b.length (l[i]).s.c); (· rfl); (· rfl); (· exact hp.cell (by first | exact pickA | exact updA) h1 1 rfl)); (· exact selA))
    refine hwk ?_
    refine CH.pure rfl (PS.indexAddr (j := i - 1) rfl rfl rfl (by omega) h2) ?_
    refine hwk ?_
    (apply CH.read; (· rfl); (· apply PS.load (v := sv (l[i - 1]).key); (· rfl); (· rfl); (· exact hp.cell (by first | exact pickA | exact updA) h2 0 rfl)); (· exact selA))
    refine hwk ?_
    refine CH.pure rfl (PS.indexAddr (j := i) rfl rfl rfl rfl h1) ?_
    refine hwk ?_
    (apply CH.read; (· rfl); (· apply PS.load (v := sv (l[i]).key); (· rfl); (· rfl); (· exact hp.cell (by first | exact pickA | exact updA) h1 0 rfl)); (· exact selA))
    refine CH.pure rfl (PS.geqStr (a := (l[i - 1]).key) (b := (l[i]).key) false (by rw [show klt (l[i - 1]).key (l[i]).key = true from k3]; rfl)) ?_
    refine hwk ?_
    refine wk ?_
    exact CQ.round (i + 1) ⟨h1, hok', fun j h hj => by
      by_cases e : j + 1 < i
      · exact hadj j h e
      · have ej : j + 1 = i := by omega
        subst ej
        simpa using k3⟩ (by omega) ⟨eqI (by omega), rfl, trivial⟩ (by exact selA)
  · have k3' : klt (rwKey l[i - 1]) (rwKey l[i]) = false := by simpa using k3
    rw [decide_eq_false (fun h => k3 (by have := mayR_adj h (i - 1) (by omega); simpa only [show i - 1 + 1 = i by omega] using this))]
    refine wk ?_
    refine CC.draw [(0, 0), (1, 0), (2, 0), (3, 0), (4, 1), (5, 2), (6, 0), (7, 0), (8, 0), (9, 0), (10, 0), (11, 0), (12, 1), (13, 0), (14, 0), (15, 0), (16, 0), (17, 0), (18, 0), (19, 0), (20, 0), (21, 0), (22, 0), (23, 0), (24, 0), (25, 1), (26, 0), (27, 0), (28, 0), (29, 0), (30, 1), (31, 0), (32, 0), (33, 0)] mixed rfl (by kernel_rfl) (by kernel_rfl) [exact x] ?_
    refine hwk ?_
    refine CH.pure rfl (PS.indexAddr (j := i) rfl rfl rfl rfl h1) ?_
    refine hwk ?_
    (apply CH.read; (· rfl); (· apply PS.load (v := sv (l[i]).key); (· rfl); (· rfl); (· exact hp.cell (by first | exact pickA | exact updA) h1 0 rfl)); (· exact selA))
    refine CH.chain rfl fun K hK => ?_
    refine CX.callA (r8key_c (l[i]).key) ?_
    rw [decide_eq_true k1]
    rintro _ _ ⟨rfl, rfl⟩
    (refine CX.nil ?_; refine CQ.thenK ?_; apply hK; (· exact selA); clear hK K)
    refine hwk ?_
    refine CH.pure rfl (PS.indexAddr (j := i) rfl rfl rfl rfl h1) ?_
    refine hwk ?_
    (apply CH.read; (· rfl); (· apply PS.load (v := .slice (l[i]).s.a (l[i]).s.b.length (l[i]).s.c); (· rfl); (· rfl); (· exact hp.cell (by first | exact pickA | exact updA) h1 1 rfl)); (· exact selA))
    refine hwk ?_
    refine CH.pure rfl (PS.indexAddr (j := i - 1) rfl rfl rfl (by omega) h2) ?_
    refine hwk ?_
    (apply CH.read; (· rfl); (· apply PS.load (v := sv (l[i - 1]).key); (· rfl); (· rfl); (· exact hp.cell (by first | exact pickA | exact updA) h2 0 rfl)); (· exact selA))
    refine hwk ?_
    refine CH.pure rfl (PS.indexAddr (j := i) rfl rfl rfl rfl h1) ?_
    refine hwk ?_
    (apply CH.read; (· rfl); (· apply PS.load (v := sv (l[i]).key); (· rfl); (· rfl); (· exact hp.cell (by first | exact pickA | exact updA) h1 0 rfl)); (· exact selA))
    refine CH.pure rfl (PS.geqStr (a := (l[i - 1]).key) (b := (l[i]).key) true (by rw [show klt (l[i - 1]).key (l[i]).key = false from k3']; rfl)) ?_
    refine hwk ?_
    refine wk ?_
    ((apply CQ.end1; (· rfl); (· exact .tmp rfl)); (· exact ⟨rfl, rfl⟩); (· exact selA))
end Go.Proofs.YtlckhaodecdbbaaGreatDoor
/-! ref 08: MayChange, in the program. Written by sy2.py. -/
namespace Go.Proofs.YtlckhaodecdbbaaGreatDoor
open Go.Cx
attribute [local irreducible] Go.Cx.CX Go.Cx.CC Go.Cx.CQ Go.Cx.PS Go.Cx.Ctr Go.Cx.CH
set_option maxRecDepth 10000
set_option maxHeartbeats 1000000 in
theorem r8mayC_c (l : List ChV) (hl : l.length ≤ 1073741824) (a : Option Addr) (c : Nat) : Ctr Tryz.prog 39 [.slice a l.length c] [] (fun x => chAt a l x) (fun v M => v = .bool (decide (MayC (l.map ChV.m))) ∧ M = []) := by
  refine Ctr.intro Tryz.func39 rfl Tryz.ntmps39 rfl fun x w hp => ?_
  refine wk ?_
  refine CC.loop (X := Nat) (fun i => [(3, .int .i64 (i : Int)), (0, .slice a l.length c)]) (fun i => [exact x])
    (fun i => i ≤ l.length ∧ (∀ j (h : j < l.length), j < i → (l[j]).m.ok) ∧ ∀ j (h : j + 1 < l.length), j + 1 < i → klt (chKey (l[j]'(by omega))) (chKey l[j + 1]) = true) (fun i => l.length - i) 0 ⟨Nat.zero_le _, fun j h h0 => by omega, fun j h h0 => by omega⟩ ⟨rfl, rfl, trivial⟩ (by exact selA) ?_
  rintro i ⟨hi, hok, hadj⟩
  by_cases h1 : i < l.length
  rotate_left
  · rw [decide_eq_true (mayC_of (fun j h => hok j h (by omega)) fun j h => hadj j h (by omega))]
    refine wk ?_
    ((apply CQ.end1; (· rfl); (· exact .tmp rfl)); (· exact ⟨rfl, rfl⟩); (· exact selA))
  obtain ⟨g, off, rfl⟩ := chAt_some hp (by omega)
  by_cases k1 : 1 ≤ (l[i]).key.length ∧ (l[i]).key.length ≤ 16
  rotate_left
  · rw [decide_eq_false (fun h => k1 ⟨(mayC_ok h i h1).k1, (mayC_ok h i h1).k2⟩)]
    refine wk ?_
    refine CC.draw [(0, 0), (1, 0), (2, 0), (3, 0), (4, 1), (5, 2), (6, 0), (7, 0), (8, 0), (9, 0), (10, 0), (11, 0), (12, 1), (13, 0), (14, 0), (15, 0), (16, 0), (17, 0), (18, 0), (19, 0), (20, 0), (21, 0), (22, 0), (23, 0), (24, 0), (25, 1), (26, 0), (27, 0), (28, 0), (29, 0), (30, 1), (31, 0), (32, 0), (33, 0), (34, 0), (35, 0), (36, 0), (37, 0), (38, 0), (39, 1), (40, 0), (41, 0), (42, 0), (43, 0), (44, 0), (45, 1), (46, 0), (47, 0), (48, 0), (49, 0)] mixed rfl (by kernel_rfl) (by kernel_rfl) [exact x] ?_
    refine hwk ?_
    refine CH.pure rfl (PS.indexAddr (j := i) rfl rfl rfl rfl h1) ?_
    refine hwk ?_
    (apply CH.read; (· rfl); (· apply PS.load (v := sv (l[i]).key); (· rfl); (· rfl); (· exact hp.cell (by first | exact pickA | exact updA) h1 0 rfl)); (· exact selA))
    refine CH.chain rfl fun K hK => ?_
    refine CX.callA (r8key_c (l[i]).key) ?_
    rw [decide_eq_false k1]
    rintro _ _ ⟨rfl, rfl⟩
    (refine CX.nil ?_; refine CQ.thenK ?_; apply hK; (· exact selA); clear hK K)
    refine hwk ?_
    refine wk ?_
    ((apply CQ.end1; (· rfl); (· exact .tmp rfl)); (· exact ⟨rfl, rfl⟩); (· exact selA))
  by_cases k2 : (l[i]).s.b.length ≤ 1048576
  rotate_left
  · rw [decide_eq_false (fun h => k2 (mayC_ok h i h1).v)]
    have k2' : 1048576 < (l[i]).s.b.length := by omega
    refine wk ?_
    refine CC.draw [(0, 0), (1, 0), (2, 0), (3, 0), (4, 1), (5, 2), (6, 0), (7, 0), (8, 0), (9, 0), (10, 0), (11, 0), (12, 1), (13, 0), (14, 0), (15, 0), (16, 0), (17, 0), (18, 0), (19, 0), (20, 0), (21, 0), (22, 0), (23, 0), (24, 0), (25, 1), (26, 0), (27, 0), (28, 0), (29, 0), (30, 1), (31, 0), (32, 0), (33, 0), (34, 0), (35, 0), (36, 0), (37, 0), (38, 0), (39, 1), (40, 0), (41, 0), (42, 0), (43, 0), (44, 0), (45, 1), (46, 0), (47, 0), (48, 0), (49, 0)] mixed rfl (by kernel_rfl) (by kernel_rfl) [exact x] ?_
    refine hwk ?_
    refine CH.pure rfl (PS.indexAddr (j := i) rfl rfl rfl rfl h1) ?_
    refine hwk ?_
    (apply CH.read; (· rfl); (· apply PS.load (v := sv (l[i]).key); (· rfl); (· rfl); (· exact hp.cell (by first | exact pickA | exact updA) h1 0 rfl)); (· exact selA))
    refine CH.chain rfl fun K hK => ?_
    refine CX.callA (r8key_c (l[i]).key) ?_
    rw [decide_eq_true k1]
    rintro _ _ ⟨rfl, rfl⟩
    (refine CX.nil ?_; refine CQ.thenK ?_; apply hK; (· exact selA); clear hK K)
    refine hwk ?_
    refine CH.pure rfl (PS.indexAddr (j := i) rfl rfl rfl rfl h1) ?_
    refine hwk ?_
    (apply CH.read; (· rfl); (· apply PS.load (v := .slice (l[i]).s.a (l[i]).s.b.length (l[i]).s.c); (· rfl); (· rfl); (· exact hp.cell (by first | exact pickA | exact updA) h1 1 rfl)); (· exact selA))
    refine hwk ?_
    refine wk ?_
    ((apply CQ.end1; (· rfl); (· exact .tmp rfl)); (· exact ⟨rfl, rfl⟩); (· exact selA))
  by_cases h0 : i = 0
  · skip
    by_cases hg : (l[i]).gone = true
    · by_cases k4 : (l[i]).s.b.length = 0
      · have hok' : ∀ j (h : j < l.length), j < i + 1 → (l[j]).m.ok := fun j h hj => by
          by_cases e : j = i
          · subst e; exact ⟨k1.1, k1.2, k2, fun _ => List.eq_nil_of_length_eq_zero k4⟩
          · exact hok j h (by omega)
        refine wk ?_
        refine CC.draw [(0, 0), (1, 0), (2, 0), (3, 0), (4, 1), (5, 2), (6, 0), (7, 0), (8, 0), (9, 0), (10, 0), (11, 0), (12, 1), (13, 0), (14, 0), (15, 0), (16, 0), (17, 0), (18, 0), (19, 0), (20, 0), (21, 0), (22, 0), (23, 0), (24, 0), (25, 1), (26, 0), (27, 0), (28, 0), (29, 0), (30, 1), (31, 0), (32, 0), (33, 0), (34, 0), (35, 0), (36, 0), (37, 0), (38, 0), (39, 1), (40, 0), (41, 0), (42, 0), (43, 0), (44, 0), (45, 1), (46, 0), (47, 0), (48, 0), (49, 0)] mixed rfl (by kernel_rfl) (by kernel_rfl) [exact x] ?_
        refine hwk ?_
        refine CH.pure rfl (PS.indexAddr (j := i) rfl rfl rfl rfl h1) ?_
        refine hwk ?_
        (apply CH.read; (· rfl); (· apply PS.load (v := sv (l[i]).key); (· rfl); (· rfl); (· exact hp.cell (by first | exact pickA | exact updA) h1 0 rfl)); (· exact selA))
        refine CH.chain rfl fun K hK => ?_
        refine CX.callA (r8key_c (l[i]).key) ?_
        rw [decide_eq_true k1]
        rintro _ _ ⟨rfl, rfl⟩
        (refine CX.nil ?_; refine CQ.thenK ?_; apply hK; (· exact selA); clear hK K)
        refine hwk ?_
        refine CH.pure rfl (PS.indexAddr (j := i) rfl rfl rfl rfl h1) ?_
        refine hwk ?_
        (apply CH.read; (· rfl); (· apply PS.load (v := .slice (l[i]).s.a (l[i]).s.b.length (l[i]).s.c); (· rfl); (· rfl); (· exact hp.cell (by first | exact pickA | exact updA) h1 1 rfl)); (· exact selA))
        refine hwk ?_
        refine CH.pure rfl (PS.indexAddr (j := i) rfl rfl rfl rfl h1) ?_
        refine hwk ?_
        (apply CH.read; (· rfl); (· apply PS.load (v := .bool true); (· rfl); (· rfl); (· exact hp.cell (by first | exact pickA | exact updA) h1 2 (by show some (Value.bool (l[i]).gone) = _; rw [hg]))); (· exact selA))
        refine hwk ?_
        refine CH.pure rfl (PS.indexAddr (j := i) rfl rfl rfl rfl h1) ?_
        refine hwk ?_
        (apply CH.read; (· rfl); (· apply PS.load (v := .slice (l[i]).s.a (l[i]).s.b.length (l[i]).s.c); (· rfl); (· rfl); (· exact hp.cell (by first | exact pickA | exact updA) h1 1 rfl)); (· exact selA))
        refine hwk ?_
        refine wk ?_
        exact CQ.round (i + 1) ⟨h1, hok', fun j h hj => by omega⟩ (by omega) ⟨eqI (by omega), rfl, trivial⟩ (by exact selA)
      · have k4' : 0 < (l[i]).s.b.length := by omega
        rw [decide_eq_false (fun h => k4 (by have := (mayC_ok h i h1).g hg; exact congrArg List.length this))]
        refine wk ?_
        refine CC.draw [(0, 0), (1, 0), (2, 0), (3, 0), (4, 1), (5, 2), (6, 0), (7, 0), (8, 0), (9, 0), (10, 0), (11, 0), (12, 1), (13, 0), (14, 0), (15, 0), (16, 0), (17, 0), (18, 0), (19, 0), (20, 0), (21, 0), (22, 0), (23, 0), (24, 0), (25, 1), (26, 0), (27, 0), (28, 0), (29, 0), (30, 1), (31, 0), (32, 0), (33, 0), (34, 0), (35, 0), (36, 0), (37, 0), (38, 0), (39, 1), (40, 0), (41, 0), (42, 0), (43, 0), (44, 0), (45, 1), (46, 0), (47, 0), (48, 0), (49, 0)] mixed rfl (by kernel_rfl) (by kernel_rfl) [exact x] ?_
        refine hwk ?_
        refine CH.pure rfl (PS.indexAddr (j := i) rfl rfl rfl rfl h1) ?_
        refine hwk ?_
        (apply CH.read; (· rfl); (· apply PS.load (v := sv (l[i]).key); (· rfl); (· rfl); (· exact hp.cell (by first | exact pickA | exact updA) h1 0 rfl)); (· exact selA))
        refine CH.chain rfl fun K hK => ?_
        refine CX.callA (r8key_c (l[i]).key) ?_
        rw [decide_eq_true k1]
        rintro _ _ ⟨rfl, rfl⟩
        (refine CX.nil ?_; refine CQ.thenK ?_; apply hK; (· exact selA); clear hK K)
        refine hwk ?_
        refine CH.pure rfl (PS.indexAddr (j := i) rfl rfl rfl rfl h1) ?_
        refine hwk ?_
        (apply CH.read; (· rfl); (· apply PS.load (v := .slice (l[i]).s.a (l[i]).s.b.length (l[i]).s.c); (· rfl); (· rfl); (· exact hp.cell (by first | exact pickA | exact updA) h1 1 rfl)); (· exact selA))
        refine hwk ?_
        refine CH.pure rfl (PS.indexAddr (j := i) rfl rfl rfl rfl h1) ?_
        refine hwk ?_
        (apply CH.read; (· rfl); (· apply PS.load (v := .bool true); (· rfl); (· rfl); (· exact hp.cell (by first | exact pickA | exact updA) h1 2 (by show some (Value.bool (l[i]).gone) = _; rw [hg]))); (· exact selA))
        refine hwk ?_
        refine CH.pure rfl (PS.indexAddr (j := i) rfl rfl rfl rfl h1) ?_
        refine hwk ?_
        (apply CH.read; (· rfl); (· apply PS.load (v := .slice (l[i]).s.a (l[i]).s.b.length (l[i]).s.c); (· rfl); (· rfl); (· exact hp.cell (by first | exact pickA | exact updA) h1 1 rfl)); (· exact selA))
        refine hwk ?_
        refine wk ?_
        ((apply CQ.end1; (· rfl); (· exact .tmp rfl)); (· exact ⟨rfl, rfl⟩); (· exact selA))
    · replace hg : (l[i]).gone = false := by simpa using hg
      have hok' : ∀ j (h : j < l.length), j < i + 1 → (l[j]).m.ok := fun j h hj => by
        by_cases e : j = i
        · subst e; exact ⟨k1.1, k1.2, k2, fun h => by have h' : (l[j]).gone = true := h; rw [hg] at h'; cases h'⟩
        · exact hok j h (by omega)
      refine wk ?_
      refine CC.draw [(0, 0), (1, 0), (2, 0), (3, 0), (4, 1), (5, 2), (6, 0), (7, 0), (8, 0), (9, 0), (10, 0), (11, 0), (12, 1), (13, 0), (14, 0), (15, 0), (16, 0), (17, 0), (18, 0), (19, 0), (20, 0), (21, 0), (22, 0), (23, 0), (24, 0), (25, 1), (26, 0), (27, 0), (28, 0), (29, 0), (30, 1), (31, 0), (32, 0), (33, 0), (34, 0), (35, 0), (36, 0), (37, 0), (38, 0), (39, 1), (40, 0), (41, 0), (42, 0), (43, 0), (44, 0), (45, 1), (46, 0), (47, 0), (48, 0), (49, 0)] mixed rfl (by kernel_rfl) (by kernel_rfl) [exact x] ?_
      refine hwk ?_
      refine CH.pure rfl (PS.indexAddr (j := i) rfl rfl rfl rfl h1) ?_
      refine hwk ?_
      (apply CH.read; (· rfl); (· apply PS.load (v := sv (l[i]).key); (· rfl); (· rfl); (· exact hp.cell (by first | exact pickA | exact updA) h1 0 rfl)); (· exact selA))
      refine CH.chain rfl fun K hK => ?_
      refine CX.callA (r8key_c (l[i]).key) ?_
      rw [decide_eq_true k1]
      rintro _ _ ⟨rfl, rfl⟩
      (refine CX.nil ?_; refine CQ.thenK ?_; apply hK; (· exact selA); clear hK K)
      refine hwk ?_
      refine CH.pure rfl (PS.indexAddr (j := i) rfl rfl rfl rfl h1) ?_
      refine hwk ?_
      (apply CH.read; (· rfl); (· apply PS.load (v := .slice (l[i]).s.a (l[i]).s.b.length (l[i]).s.c); (· rfl); (· rfl); (· exact hp.cell (by first | exact pickA | exact updA) h1 1 rfl)); (· exact selA))
      refine hwk ?_
      refine CH.pure rfl (PS.indexAddr (j := i) rfl rfl rfl rfl h1) ?_
      refine hwk ?_
      (apply CH.read; (· rfl); (· apply PS.load (v := .bool false); (· rfl); (· rfl); (· exact hp.cell (by first | exact pickA | exact updA) h1 2 (by show some (Value.bool (l[i]).gone) = _; rw [hg]))); (· exact selA))
      refine hwk ?_
      refine wk ?_
      exact CQ.round (i + 1) ⟨h1, hok', fun j h hj => by omega⟩ (by omega) ⟨eqI (by omega), rfl, trivial⟩ (by exact selA)
  have h2 : i - 1 < l.length := by omega
  have h0' : 0 < i := by omega
  by_cases k3 : klt (chKey l[i - 1]) (chKey l[i]) = true
  rotate_left
  · replace k3 : klt (chKey l[i - 1]) (chKey l[i]) = false := by simpa using k3
    rw [decide_eq_false (fun h => by have := mayC_adj h (i - 1) (by omega); simp only [show i - 1 + 1 = i by omega] at this; rw [this] at k3; cases k3)]
    refine wk ?_
    refine CC.draw [(0, 0), (1, 0), (2, 0), (3, 0), (4, 1), (5, 2), (6, 0), (7, 0), (8, 0), (9, 0), (10, 0), (11, 0), (12, 1), (13, 0), (14, 0), (15, 0), (16, 0), (17, 0), (18, 0), (19, 0), (20, 0), (21, 0), (22, 0), (23, 0), (24, 0), (25, 1), (26, 0), (27, 0), (28, 0), (29, 0), (30, 1), (31, 0), (32, 0), (33, 0), (34, 0), (35, 0), (36, 0), (37, 0), (38, 0), (39, 1), (40, 0), (41, 0), (42, 0), (43, 0), (44, 0), (45, 1), (46, 0), (47, 0), (48, 0), (49, 0)] mixed rfl (by kernel_rfl) (by kernel_rfl) [exact x] ?_
    refine hwk ?_
    refine CH.pure rfl (PS.indexAddr (j := i) rfl rfl rfl rfl h1) ?_
    refine hwk ?_
    (apply CH.read; (· rfl); (· apply PS.load (v := sv (l[i]).key); (· rfl); (· rfl); (· exact hp.cell (by first | exact pickA | exact updA) h1 0 rfl)); (· exact selA))
    refine CH.chain rfl fun K hK => ?_
    refine CX.callA (r8key_c (l[i]).key) ?_
    rw [decide_eq_true k1]
    rintro _ _ ⟨rfl, rfl⟩
    (refine CX.nil ?_; refine CQ.thenK ?_; apply hK; (· exact selA); clear hK K)
    refine hwk ?_
    refine CH.pure rfl (PS.indexAddr (j := i) rfl rfl rfl rfl h1) ?_
    refine hwk ?_
    (apply CH.read; (· rfl); (· apply PS.load (v := .slice (l[i]).s.a (l[i]).s.b.length (l[i]).s.c); (· rfl); (· rfl); (· exact hp.cell (by first | exact pickA | exact updA) h1 1 rfl)); (· exact selA))
    refine hwk ?_
    refine CH.pure rfl (PS.indexAddr (j := i - 1) rfl rfl rfl (by omega) h2) ?_
    refine hwk ?_
    (apply CH.read; (· rfl); (· apply PS.load (v := sv (l[i - 1]).key); (· rfl); (· rfl); (· exact hp.cell (by first | exact pickA | exact updA) h2 0 rfl)); (· exact selA))
    refine hwk ?_
    refine CH.pure rfl (PS.indexAddr (j := i) rfl rfl rfl rfl h1) ?_
    refine hwk ?_
    (apply CH.read; (· rfl); (· apply PS.load (v := sv (l[i]).key); (· rfl); (· rfl); (· exact hp.cell (by first | exact pickA | exact updA) h1 0 rfl)); (· exact selA))
    refine CH.pure rfl (PS.geqStr (a := (l[i - 1]).key) (b := (l[i]).key) true (by rw [show klt (l[i - 1]).key (l[i]).key = false from k3]; rfl)) ?_
    refine hwk ?_
    refine wk ?_
    ((apply CQ.end1; (· rfl); (· exact .tmp rfl)); (· exact ⟨rfl, rfl⟩); (· exact selA))
  by_cases hg : (l[i]).gone = true
  · by_cases k4 : (l[i]).s.b.length = 0
    · have hok' : ∀ j (h : j < l.length), j < i + 1 → (l[j]).m.ok := fun j h hj => by
        by_cases e : j = i
        · subst e; exact ⟨k1.1, k1.2, k2, fun _ => List.eq_nil_of_length_eq_zero k4⟩
        · exact hok j h (by omega)
      refine wk ?_
      refine CC.draw [(0, 0), (1, 0), (2, 0), (3, 0), (4, 1), (5, 2), (6, 0), (7, 0), (8, 0), (9, 0), (10, 0), (11, 0), (12, 1), (13, 0), (14, 0), (15, 0), (16, 0), (17, 0), (18, 0), (19, 0), (20, 0), (21, 0), (22, 0), (23, 0), (24, 0), (25, 1), (26, 0), (27, 0), (28, 0), (29, 0), (30, 1), (31, 0), (32, 0), (33, 0), (34, 0), (35, 0), (36, 0), (37, 0), (38, 0), (39, 1), (40, 0), (41, 0), (42, 0), (43, 0), (44, 0), (45, 1), (46, 0), (47, 0), (48, 0), (49, 0)] mixed rfl (by kernel_rfl) (by kernel_rfl) [exact x] ?_
      refine hwk ?_
      refine CH.pure rfl (PS.indexAddr (j := i) rfl rfl rfl rfl h1) ?_
      refine hwk ?_
      (apply CH.read; (· rfl); (· apply PS.load (v := sv (l[i]).key); (· rfl); (· rfl); (· exact hp.cell (by first | exact pickA | exact updA) h1 0 rfl)); (· exact selA))
      refine CH.chain rfl fun K hK => ?_
      refine CX.callA (r8key_c (l[i]).key) ?_
      rw [decide_eq_true k1]
      rintro _ _ ⟨rfl, rfl⟩
      (refine CX.nil ?_; refine CQ.thenK ?_; apply hK; (· exact selA); clear hK K)
      refine hwk ?_
      refine CH.pure rfl (PS.indexAddr (j := i) rfl rfl rfl rfl h1) ?_
      refine hwk ?_
      (apply CH.read; (· rfl); (· apply PS.load (v := .slice (l[i]).s.a (l[i]).s.b.length (l[i]).s.c); (· rfl); (· rfl); (· exact hp.cell (by first | exact pickA | exact updA) h1 1 rfl)); (· exact selA))
      refine hwk ?_
      refine CH.pure rfl (PS.indexAddr (j := i - 1) rfl rfl rfl (by omega) h2) ?_
      refine hwk ?_
      (apply CH.read; (· rfl); (· apply PS.load (v := sv (l[i - 1]).key); (· rfl); (· rfl); (· exact hp.cell (by first | exact pickA | exact updA) h2 0 rfl)); (· exact selA))
      refine hwk ?_
      refine CH.pure rfl (PS.indexAddr (j := i) rfl rfl rfl rfl h1) ?_
      refine hwk ?_
      (apply CH.read; (· rfl); (· apply PS.load (v := sv (l[i]).key); (· rfl); (· rfl); (· exact hp.cell (by first | exact pickA | exact updA) h1 0 rfl)); (· exact selA))
      refine CH.pure rfl (PS.geqStr (a := (l[i - 1]).key) (b := (l[i]).key) false (by rw [show klt (l[i - 1]).key (l[i]).key = true from k3]; rfl)) ?_
      refine hwk ?_
      refine CH.pure rfl (PS.indexAddr (j := i) rfl rfl rfl rfl h1) ?_
      refine hwk ?_
      (apply CH.read; (· rfl); (· apply PS.load (v := .bool true); (· rfl); (· rfl); (· exact hp.cell (by first | exact pickA | exact updA) h1 2 (by show some (Value.bool (l[i]).gone) = _; rw [hg]))); (· exact selA))
      refine hwk ?_
      refine CH.pure rfl (PS.indexAddr (j := i) rfl rfl rfl rfl h1) ?_
      refine hwk ?_
      (apply CH.read; (· rfl); (· apply PS.load (v := .slice (l[i]).s.a (l[i]).s.b.length (l[i]).s.c); (· rfl); (· rfl); (· exact hp.cell (by first | exact pickA | exact updA) h1 1 rfl)); (· exact selA))
      refine hwk ?_
      refine wk ?_
      exact CQ.round (i + 1) ⟨h1, hok', fun j h hj => by
          by_cases e : j + 1 < i
          · exact hadj j h e
          · have ej : j + 1 = i := by omega
            subst ej
            simpa using k3⟩ (by omega) ⟨eqI (by omega), rfl, trivial⟩ (by exact selA)
    · have k4' : 0 < (l[i]).s.b.length := by omega
      rw [decide_eq_false (fun h => k4 (by have := (mayC_ok h i h1).g hg; exact congrArg List.length this))]
      refine wk ?_
      refine CC.draw [(0, 0), (1, 0), (2, 0), (3, 0), (4, 1), (5, 2), (6, 0), (7, 0), (8, 0), (9, 0), (10, 0), (11, 0), (12, 1), (13, 0), (14, 0), (15, 0), (16, 0), (17, 0), (18, 0), (19, 0), (20, 0), (21, 0), (22, 0), (23, 0), (24, 0), (25, 1), (26, 0), (27, 0), (28, 0), (29, 0), (30, 1), (31, 0), (32, 0), (33, 0), (34, 0), (35, 0), (36, 0), (37, 0), (38, 0), (39, 1), (40, 0), (41, 0), (42, 0), (43, 0), (44, 0), (45, 1), (46, 0), (47, 0), (48, 0), (49, 0)] mixed rfl (by kernel_rfl) (by kernel_rfl) [exact x] ?_
      refine hwk ?_
      refine CH.pure rfl (PS.indexAddr (j := i) rfl rfl rfl rfl h1) ?_
      refine hwk ?_
      (apply CH.read; (· rfl); (· apply PS.load (v := sv (l[i]).key); (· rfl); (· rfl); (· exact hp.cell (by first | exact pickA | exact updA) h1 0 rfl)); (· exact selA))
      refine CH.chain rfl fun K hK => ?_
      refine CX.callA (r8key_c (l[i]).key) ?_
      rw [decide_eq_true k1]
      rintro _ _ ⟨rfl, rfl⟩
      (refine CX.nil ?_; refine CQ.thenK ?_; apply hK; (· exact selA); clear hK K)
      refine hwk ?_
      refine CH.pure rfl (PS.indexAddr (j := i) rfl rfl rfl rfl h1) ?_
      refine hwk ?_
      (apply CH.read; (· rfl); (· apply PS.load (v := .slice (l[i]).s.a (l[i]).s.b.length (l[i]).s.c); (· rfl); (· rfl); (· exact hp.cell (by first | exact pickA | exact updA) h1 1 rfl)); (· exact selA))
      refine hwk ?_
      refine CH.pure rfl (PS.indexAddr (j := i - 1) rfl rfl rfl (by omega) h2) ?_
      refine hwk ?_
      (apply CH.read; (· rfl); (· apply PS.load (v := sv (l[i - 1]).key); (· rfl); (· rfl); (· exact hp.cell (by first | exact pickA | exact updA) h2 0 rfl)); (· exact selA))
      refine hwk ?_
      refine CH.pure rfl (PS.indexAddr (j := i) rfl rfl rfl rfl h1) ?_
      refine hwk ?_
      (apply CH.read; (· rfl); (· apply PS.load (v := sv (l[i]).key); (· rfl); (· rfl); (· exact hp.cell (by first | exact pickA | exact updA) h1 0 rfl)); (· exact selA))
      refine CH.pure rfl (PS.geqStr (a := (l[i - 1]).key) (b := (l[i]).key) false (by rw [show klt (l[i - 1]).key (l[i]).key = true from k3]; rfl)) ?_
      refine hwk ?_
      refine CH.pure rfl (PS.indexAddr (j := i) rfl rfl rfl rfl h1) ?_
      refine hwk ?_
      (apply CH.read; (· rfl); (· apply PS.load (v := .bool true); (· rfl); (· rfl); (· exact hp.cell (by first | exact pickA | exact updA) h1 2 (by show some (Value.bool (l[i]).gone) = _; rw [hg]))); (· exact selA))
      refine hwk ?_
      refine CH.pure rfl (PS.indexAddr (j := i) rfl rfl rfl rfl h1) ?_
      refine hwk ?_
      (apply CH.read; (· rfl); (· apply PS.load (v := .slice (l[i]).s.a (l[i]).s.b.length (l[i]).s.c); (· rfl); (· rfl); (· exact hp.cell (by first | exact pickA | exact updA) h1 1 rfl)); (· exact selA))
      refine hwk ?_
      refine wk ?_
      ((apply CQ.end1; (· rfl); (· exact .tmp rfl)); (· exact ⟨rfl, rfl⟩); (· exact selA))
  · replace hg : (l[i]).gone = false := by simpa using hg
    have hok' : ∀ j (h : j < l.length), j < i + 1 → (l[j]).m.ok := fun j h hj => by
      by_cases e : j = i
      · subst e; exact ⟨k1.1, k1.2, k2, fun h => by have h' : (l[j]).gone = true := h; rw [hg] at h'; cases h'⟩
      · exact hok j h (by omega)
    refine wk ?_
    refine CC.draw [(0, 0), (1, 0), (2, 0), (3, 0), (4, 1), (5, 2), (6, 0), (7, 0), (8, 0), (9, 0), (10, 0), (11, 0), (12, 1), (13, 0), (14, 0), (15, 0), (16, 0), (17, 0), (18, 0), (19, 0), (20, 0), (21, 0), (22, 0), (23, 0), (24, 0), (25, 1), (26, 0), (27, 0), (28, 0), (29, 0), (30, 1), (31, 0), (32, 0), (33, 0), (34, 0), (35, 0), (36, 0), (37, 0), (38, 0), (39, 1), (40, 0), (41, 0), (42, 0), (43, 0), (44, 0), (45, 1), (46, 0), (47, 0), (48, 0), (49, 0)] mixed rfl (by kernel_rfl) (by kernel_rfl) [exact x] ?_
    refine hwk ?_
    refine CH.pure rfl (PS.indexAddr (j := i) rfl rfl rfl rfl h1) ?_
    refine hwk ?_
    (apply CH.read; (· rfl); (· apply PS.load (v := sv (l[i]).key); (· rfl); (· rfl); (· exact hp.cell (by first | exact pickA | exact updA) h1 0 rfl)); (· exact selA))
    refine CH.chain rfl fun K hK => ?_
    refine CX.callA (r8key_c (l[i]).key) ?_
    rw [decide_eq_true k1]
    rintro _ _ ⟨rfl, rfl⟩
    (refine CX.nil ?_; refine CQ.thenK ?_; apply hK; (· exact selA); clear hK K)
    refine hwk ?_
    refine CH.pure rfl (PS.indexAddr (j := i) rfl rfl rfl rfl h1) ?_
    refine hwk ?_
    (apply CH.read; (· rfl); (· apply PS.load (v := .slice (l[i]).s.a (l[i]).s.b.length (l[i]).s.c); (· rfl); (· rfl); (· exact hp.cell (by first | exact pickA | exact updA) h1 1 rfl)); (· exact selA))
    refine hwk ?_
    refine CH.pure rfl (PS.indexAddr (j := i - 1) rfl rfl rfl (by omega) h2) ?_
    refine hwk ?_
    (apply CH.read; (· rfl); (· apply PS.load (v := sv (l[i - 1]).key); (· rfl); (· rfl); (· exact hp.cell (by first | exact pickA | exact updA) h2 0 rfl)); (· exact selA))
    refine hwk ?_
    refine CH.pure rfl (PS.indexAddr (j := i) rfl rfl rfl rfl h1) ?_
    refine hwk ?_
    (apply CH.read; (· rfl); (· apply PS.load (v := sv (l[i]).key); (· rfl); (· rfl); (· exact hp.cell (by first | exact pickA | exact updA) h1 0 rfl)); (· exact selA))
    refine CH.pure rfl (PS.geqStr (a := (l[i - 1]).key) (b := (l[i]).key) false (by rw [show klt (l[i - 1]).key (l[i]).key = true from k3]; rfl)) ?_
    refine hwk ?_
    refine CH.pure rfl (PS.indexAddr (j := i) rfl rfl rfl rfl h1) ?_
    refine hwk ?_
    (apply CH.read; (· rfl); (· apply PS.load (v := .bool false); (· rfl); (· rfl); (· exact hp.cell (by first | exact pickA | exact updA) h1 2 (by show some (Value.bool (l[i]).gone) = _; rw [hg]))); (· exact selA))
    refine hwk ?_
    refine wk ?_
    exact CQ.round (i + 1) ⟨h1, hok', fun j h hj => by
        by_cases e : j + 1 < i
        · exact hadj j h e
        · have ej : j + 1 = i := by omega
          subst ej
          simpa using k3⟩ (by omega) ⟨eqI (by omega), rfl, trivial⟩ (by exact selA)
end Go.Proofs.YtlckhaodecdbbaaGreatDoor
/-! Stepping through a region in which two operations may come either way round. No program in sight. -/
namespace Go.Cx
/-- An order with forks. -/
inductive Pl
  | nil
  | op (i k : Nat) (p : Pl)
  | fork (i j : Nat) (p q : Pl)
def Pl.len : Pl → Nat
  | .nil => 0
  | .op _ _ p => p.len + 1
  | .fork _ _ p _ => p.len + 1
def plB (ops : Array Oper) (T : Nat → Bool) : Pl → Array Bool → Bool
  | .nil, listed => (Region.ready .any ops listed).isEmpty
  | .op i k p, listed =>
    (if k ≤ 1 then (Region.ready .any ops listed).contains i && Region.free .any ops listed i &&
        (k == 0 || (List.range ops.size).all fun j => !T j || ((ops[j]?).map fun oj => oj.after.any fun e => Region.binds .any e && e.on == i).getD true)
      else Region.ready .any ops listed == [i] && (k == 3 || !T i)) && plB ops T p (listed.setIfInBounds i true)
  | .fork i j p q, listed => (Region.ready .any ops listed == [i, j] && (p.len == q.len)) && (plB ops T p (listed.setIfInBounds i true) && plB ops T q (listed.setIfInBounds j true))
def CP (P : Program) (ops : Array Oper) (Q : Exit → Act → World → Prop) (n : Nat) (e0 : World) (T : Nat → Bool) (R : List Assn) (env : Env) (L : List Assn) (s : Pl) : Prop :=
  Region.noSelect ops = true → ∀ listed, plB ops T s listed = true → ∀ a w, Fr n env a → Sep L w.ph → Env0 e0 w → wpAnyT P ops (NoPanic Q) (fun w => Sep R w.ph) T s.len listed a w
section
variable {P : Program} {ops : Array Oper} {Q : Exit → Act → World → Prop} {n : Nat} {e0 : World} {env : Env} {L R : List Assn} {s p q : Pl} {T : Nat → Bool}
variable {dst : Option Tmp} {ty : TypeId} {pos : String} {aft : Array Edge} {g : Option (Nat × Bool)} {op : Op}
theorem CP.nil (h : CQ (Q .normal) n e0 env L) : CP P ops Q n e0 T R env L .nil := fun hsel listed hB a w hf hs he => by
  refine ⟨?_, h a w hf hs he⟩
  simpa [plB] using hB
theorem CP.pure {i : Nat} {v : Value} (h : CP P ops Q n e0 T R (putE env dst v) L s) (ho : ops[i]? = some ⟨dst, op, ty, pos, aft, g⟩ := by rfl) (hp : PS P ops n env [] ⟨dst, op, ty, pos, aft, g⟩ v := by first | (apply PS.cmpT; (· rfl); (· rfl); (· first | assumption | omega | rfl | decide)) | (apply PS.cmpF; (· rfl); (· rfl); (· first | assumption | omega | rfl | decide)) | (apply PS.cmp <;> rfl) | (apply PS.notD <;> rfl) | (apply PS.auto <;> rfl) | (apply PS.fieldAddr <;> rfl) | (apply PS.load; (· rfl); (· rfl); (· apply CellAt.pick; (· first | exact pickA | exact updA); (· rfl))) | (apply PS.arith; (· rfl); (· rfl); (· simp only [inR]; omega)) | (apply PS.convR; (· rfl); (· rfl); (· simp only [inR]; omega)) | (apply PS.lenSl <;> rfl) | (apply PS.capSl <;> rfl) | (apply PS.maxI <;> rfl) | (apply PS.minI <;> rfl) | (apply PS.eqlPtrNil <;> rfl) | (apply PS.neqPtrNil <;> rfl) | (apply PS.eqlSlNil <;> rfl) | (apply PS.makeFunc <;> rfl) | (apply PS.fieldS <;> rfl)) : CP P ops Q n e0 T R env L (.op i 0 s) := fun hsel listed hB a w hf hs he => by
  simp only [plB, Nat.zero_le, if_true, Bool.and_eq_true] at hB
  exact wpAnyT_first (rd := false) ho (Region.noSelect_spec hsel) (fun _ _ _ h => h.elim) (fun h => by cases h) _ _ _ _ (Region.free_spec ho hB.1.1.2) (by simpa using hB.1.1.1)
    (.inl ⟨gd_wanted hf hp.1, fun w' hs' => hp.2 a w' hf trivial⟩) (fun h => by cases h) (h hsel _ hB.2 _ _ (hf.put dst v) hs he)
theorem CP.read {i : Nat} {v : Value} {M : List Assn} (h : CP P ops Q n e0 T R (putE env dst v) L s) (ho : ops[i]? = some ⟨dst, op, ty, pos, aft, g⟩ := by rfl) (hp : PS P ops n env R ⟨dst, op, ty, pos, aft, g⟩ v := by first | (apply PS.cmpT; (· rfl); (· rfl); (· first | assumption | omega | rfl | decide)) | (apply PS.cmpF; (· rfl); (· rfl); (· first | assumption | omega | rfl | decide)) | (apply PS.cmp <;> rfl) | (apply PS.notD <;> rfl) | (apply PS.auto <;> rfl) | (apply PS.fieldAddr <;> rfl) | (apply PS.load; (· rfl); (· rfl); (· apply CellAt.pick; (· first | exact pickA | exact updA); (· rfl))) | (apply PS.arith; (· rfl); (· rfl); (· simp only [inR]; omega)) | (apply PS.convR; (· rfl); (· rfl); (· simp only [inR]; omega)) | (apply PS.lenSl <;> rfl) | (apply PS.capSl <;> rfl) | (apply PS.maxI <;> rfl) | (apply PS.minI <;> rfl) | (apply PS.eqlPtrNil <;> rfl) | (apply PS.neqPtrNil <;> rfl) | (apply PS.eqlSlNil <;> rfl) | (apply PS.makeFunc <;> rfl) | (apply PS.fieldS <;> rfl)) (hr : Sel L R M := by exact selA) : CP P ops Q n e0 T R env L (.op i 1 s) := fun hsel listed hB a w hf hs he => by
  simp only [plB, Nat.le_refl, if_true, Bool.and_eq_true, Bool.or_eq_true, List.all_eq_true] at hB
  refine wpAnyT_first (rd := true) ho (Region.noSelect_spec hsel) (fun _ _ _ h => h.elim) (fun _ j oj hj hTj => ?_) _ _ _ _ (Region.free_spec ho hB.1.1.2) (by simpa using hB.1.1.1)
    (.inl ⟨gd_wanted hf hp.1, fun w' hs' => hp.2 a w' hf (hs' rfl)⟩) (fun _ => (hr.sep hs).left) (h hsel _ hB.2 _ _ (hf.put dst v) hs he)
  rcases hB.1.2 with h1 | h1
  · simp at h1
  · have := h1 j (by simpa using (Array.getElem?_eq_some_iff.1 hj).1)
    simp only [hTj, Bool.not_true, Bool.false_or, hj, Option.map_some, Option.getD_some, Array.any_eq_true', Bool.and_eq_true, beq_iff_eq] at this
    rcases this with h2 | h2
    · cases h2
    · exact h2
/-- One operation, as a region of its own. -/
theorem CX.wpOp {i : Nat} {o : Oper} {K : Act → World → Prop} {a : Act} {w : World} (ho : ops[i]? = some o) (h : CX P ops (Exit.then K (NoPanic Q)) n e0 env L [o]) (hf : Fr n env a) (hs : Sep L w.ph) (he : Env0 e0 w) : Go.wpOp P ops (NoPanic Q) i K a w := by
  have := h a w hf hs he
  simp only [Go.wpOp, ho]
  unfold wpList at this
  split at this
  · rename_i hw
    simp only [hw, if_true]
    rcases this with h1 | ⟨h1, a0, w0, h2⟩
    · refine .inl ?_
      unfold Oper.wp at *
      generalize (execOp a.eval o).run P w = r at *
      cases r with
      | ok x w' =>
        cases x <;> simp only [Oper.upon] at h1 ⊢ <;> first
          | exact h1
          | exact h1.elim
          | exact Calls.mono h1 (fun e w'' h3 => by cases e <;> exact h3)
          | exact Rows.mono h1 (fun _ _ h3 => h3)
      | halt x w' => cases x <;> simp only [Oper.upon] at h1 ⊢ <;> exact h1
    · exact .inr ⟨h1, a0, w0, h2⟩
  · rename_i hw
    simp only [hw, if_false, Bool.false_eq_true]
    exact this
theorem CP.act {i k : Nat} {o : Oper}
    (h : ∀ K : Act → World → Prop, (∀ env' L' M, Sel L' R M → CP P ops Q n e0 T R env' L' s → CQ K n e0 env' L') → CX P ops (Exit.then K (NoPanic Q)) n e0 env L [o]) (hk : Nat.ble k 1 = false := by rfl) (ho : ops[i]? = some o := by rfl) :
    CP P ops Q n e0 T R env L (.op i k s) := fun hsel listed hB a w hf hs he => by
  have hk' : ¬ k ≤ 1 := fun h => by have := Nat.ble_eq_true_of_le h; rw [hk] at this; cases this
  simp only [plB, hk', if_false, Bool.and_eq_true, beq_iff_eq] at hB
  refine ⟨fun h0 => (by rw [hB.1.1] at h0; cases h0), fun j hj => ?_⟩
  rw [hB.1.1] at hj
  obtain rfl : j = i := by simpa using hj
  exact CX.wpOp ho (h _ fun env' L' M hm hch a' w' hf' hs' he' => ⟨fun _ _ => (hm.sep hs').left, hch hsel _ hB.2 a' w' hf' hs' he'⟩) hf hs he
/-- What comes last may leave what was read. -/
theorem CP.last {i : Nat} {o : Oper}
    (h : ∀ K : Act → World → Prop, (∀ env' L', CP P ops Q n e0 T R env' L' s → CQ K n e0 env' L') → CX P ops (Exit.then K (NoPanic Q)) n e0 env L [o]) (hT : T i = true := by rfl) (ho : ops[i]? = some o := by rfl) :
    CP P ops Q n e0 T R env L (.op i 3 s) := fun hsel listed hB a w hf hs he => by
  simp only [plB, show ¬ 3 ≤ 1 by omega, if_false, Bool.and_eq_true, beq_iff_eq] at hB
  refine ⟨fun h0 => (by rw [hB.1.1] at h0; cases h0), fun j hj => ?_⟩
  rw [hB.1.1] at hj
  obtain rfl : j = i := by simpa using hj
  exact CX.wpOp ho (h _ fun env' L' hch a' w' hf' hs' he' => ⟨fun hf _ => (by rw [hT] at hf; cases hf), hch hsel _ hB.2 a' w' hf' hs' he'⟩) hf hs he
/-- Either way round. -/
theorem CP.fork {i j : Nat} {oi oj : Oper}
    (h1 : ∀ K : Act → World → Prop, (∀ env' L' M, Sel L' R M → CP P ops Q n e0 T R env' L' p → CQ K n e0 env' L') → CX P ops (Exit.then K (NoPanic Q)) n e0 env L [oi])
    (h2 : ∀ K : Act → World → Prop, (∀ env' L' M, Sel L' R M → CP P ops Q n e0 T R env' L' q → CQ K n e0 env' L') → CX P ops (Exit.then K (NoPanic Q)) n e0 env L [oj]) (hoi : ops[i]? = some oi := by rfl) (hoj : ops[j]? = some oj := by rfl) :
    CP P ops Q n e0 T R env L (.fork i j p q) := fun hsel listed hB a w hf hs he => by
  simp only [plB, Bool.and_eq_true, beq_iff_eq] at hB
  obtain ⟨⟨hr, hlen⟩, hp, hq⟩ := hB
  refine ⟨fun h0 => (by rw [hr] at h0; cases h0), fun z hz => ?_⟩
  rw [hr] at hz
  rcases List.mem_cons.1 hz with rfl | hz
  · exact CX.wpOp hoi (h1 _ fun env' L' M hm hch a' w' hf' hs' he' => ⟨fun _ _ => (hm.sep hs').left, hch hsel _ hp a' w' hf' hs' he'⟩) hf hs he
  · obtain rfl : z = j := by simpa using hz
    exact CX.wpOp hoj (h2 _ fun env' L' M hm hch a' w' hf' hs' he' => ⟨fun _ _ => (hm.sep hs').left, by have := hch hsel _ hq a' w' hf' hs' he'; rw [← hlen] at this; exact this⟩) hf hs he
theorem CC.drawP {id : Nat} {l : List Oper} (s : Pl) (T : Nat → Bool) (hm : P.follows .mixedOrders = true) (hl : l.length = s.len) (hB : plB l.toArray T s (Array.replicate l.length false) = true)
    (hns : Region.noSelect l.toArray = true) (R : List Assn) (h : CP P l.toArray Q n e0 T R env L s) : CC P (.region id l.toArray true) Q n e0 env L := fun a w hf hs he => by
  refine wp_region_noPanic (wp_region_any hm (wpAny_of_T (S := fun w => Sep R w.ph) (T := T) _ _ _ _ ?_))
  have := h hns (Array.replicate l.length false) hB a { w with drawn := w.drawn + 1 } hf hs (he.trans ⟨rfl, rfl, rfl⟩)
  simpa [hl] using this
end
theorem hqk {p q : Prop} (h : q) (k : Hd q → p := by intro h; (repeat (first | refine CP.pure ?_ | refine CP.read ?_ | refine CP.nil ?_)); exact h.g) : p := k ⟨h⟩
end Go.Cx
/-! Heads (head), in the program. -/
namespace Go.Cx
def hc (h : HdM) : List Value := [.int .u8 (h.bank : Int), .int .u32 (h.blocks : Int), .int .u32 (h.batches : Int)]
def maxB (C : Blk) : Nat := C.foldl (fun m c => Max.max m c.toNat) 0
theorem maxB_snoc (C : Blk) (c : UInt8) : maxB (C ++ [c]) = Max.max (maxB C) c.toNat := by simp [maxB]
theorem maxB_pos (C : Blk) : 0 < maxB C ↔ ∃ c ∈ C, c ≠ 0 := by
  have key : ∀ (C : Blk) (m : Nat), 0 < C.foldl (fun m c => Max.max m c.toNat) m ↔ (0 < m ∨ ∃ c ∈ C, c ≠ 0) := by
    intro C
    induction C with
    | nil => intro m; simp
    | cons x C ih =>
      intro m
      rw [List.foldl_cons, ih]
      have hx : 0 < x.toNat ↔ x ≠ 0 := by
        constructor
        · intro h e; rw [e] at h; exact absurd h (by decide)
        · intro h; rcases Nat.eq_zero_or_pos x.toNat with h0 | h0
          · exact absurd (UInt8.toNat_inj.1 h0) h
          · exact h0
      simp only [List.mem_cons, exists_eq_or_imp, ← hx]
      generalize (∃ c, c ∈ C ∧ c ≠ 0) = q
      constructor
      · rintro (h | h)
        · by_cases h2 : 0 < m
          · exact .inl h2
          · exact .inr (.inl (by omega))
        · exact .inr (.inr h)
      · rintro (h | h | h)
        · exact .inl (by omega)
        · exact .inl (by omega)
        · exact .inr h
  have := key C 0
  simpa [maxB] using this
theorem getN_from {B : Blk} {k : Nat} (hk : k = 1 ∨ k = 2 ∨ k = 4 ∨ k = 8) (h : k ≤ B.length) : getN B 0 (k : Int) = (ofLe (B.take k), 0) := by
  unfold getN
  rw [if_neg (by unfold okSize; omega), if_neg (by omega)]
  simp
theorem ofLe_tk (B : Blk) (k : Nat) : ofLe (B.take k) < 256 ^ k := Nat.lt_of_lt_of_le (ofLe_lt (B.take k)) (Nat.pow_le_pow_right (by omega) (by simp; omega))
theorem rdx_tail {g : Nat} {len : Nat} {B : Blk} {y : PH} (h : rdx (some ⟨g, 0, none⟩) len (cb B) y) (hl : len = B.length) (k : Nat) (hk : k ≤ B.length) : rdx (some ⟨g, k, none⟩) (B.length - k) (cb (B.drop k)) y := by
  have := rdx_part rfl h hl k (B.length - k) (by omega)
  rwa [Nat.zero_add, List.take_of_length_le (by simp)] at this
end Go.Cx
namespace Go.Proofs.YtlckhaodecdbbaaGreatDoor
open Go.Cx
section
variable {ops : Array Oper} {n : Nat} {env : Env} {L : List Assn}
variable {dst : Option Tmp} {ty : TypeId} {pos : String} {aft : Array Edge} {g : Option (Nat × Bool)}
end
attribute [local irreducible] Go.Cx.CX Go.Cx.CC Go.Cx.CQ Go.Cx.PS Go.Cx.Ctr Go.Cx.CH
set_option maxRecDepth 10000
theorem sizes_c : Ctr Tryz.prog 165 [] [] (fun _ => True) (fun v M => v = .agg #[.int .i64 1, .int .i64 4, .int .i64 4] ∧ M = []) := by
  refine Ctr.intro Tryz.func165 rfl Tryz.ntmps165 rfl fun x w hp => ?_
  refine wk ?_
  (refine CX.allocA ?_; intro r)
  refine wk ?_
  (apply CX.ps; (· apply PS.buildArr (out := [.int .i64 1, .int .i64 4, .int .i64 4]); (· rfl); (· rfl); (· rfl)))
  (refine CX.storeB (vs := [.int .i64 1, .int .i64 4, .int .i64 4]) ?_ ?_ ?_ ?_; (· rfl); (· rfl); (· exact one_all rfl))
  refine wk ?_
  ((apply CQ.end1; (· rfl); (· exact .cells inferInstance rfl (CellsAt.all (by first | exact pickA | exact updA)) (rfl))); (· exact ⟨rfl, rfl⟩); (· exact selA))
theorem may_c (h : HdM) : Ctr Tryz.prog 166 [.agg (hc h).toArray] [] (fun _ => True) (fun v M => v = .bool (decide h.may) ∧ M = []) := by
  refine Ctr.intro Tryz.func166 rfl Tryz.ntmps166 rfl fun x w hp => ?_
  refine wk ?_
  (refine CX.boxA (vs := hc h) ?_; intro r)
  by_cases h1 : h.bank < 2
  · by_cases h2 : h.blocks ≤ 4096
    · by_cases h3 : h.batches ≤ h.blocks
      · refine wk ?_
        ((apply CQ.end1; (· rfl); (· exact .tmp rfl)); (· exact ⟨by rw [decide_eq_true (show h.may from ⟨h1, h2, h3⟩)], rfl⟩); (· exact selA))
      · refine wk ?_
        ((apply CQ.end1; (· rfl); (· exact .tmp rfl)); (· exact ⟨by rw [decide_eq_false (show ¬ h.may from fun q => h3 q.2.2)], rfl⟩); (· exact selA))
    · refine wk ?_
      ((apply CQ.end1; (· rfl); (· exact .tmp rfl)); (· exact ⟨by rw [decide_eq_false (show ¬ h.may from fun q => h2 q.2.1)], rfl⟩); (· exact selA))
  · refine wk ?_
    ((apply CQ.end1; (· rfl); (· exact .tmp rfl)); (· exact ⟨by rw [decide_eq_false (show ¬ h.may from fun q => h1 q.1)], rfl⟩); (· exact selA))
theorem hput_c (n : Nat) (hn : n ≤ top) (h : HdM) (ok : h.ok) : Ctr Tryz.prog 154 [.int .u64 (n : Int), .agg (hc h).toArray] [] (fun _ => True) (fun v M => v = .tuple #[.agg (cb (putH n h).1).toArray, .int .i64 (putH n h).2] ∧ M = []) := by
  have o1 := ok.bank
  have o2 := ok.blocks
  have o3 := ok.batches
  refine Ctr.intro Tryz.func154 rfl Tryz.ntmps154 rfl fun x w hp => ?_
  refine wk ?_
  (refine CX.boxA (vs := hc h) ?_; intro r)
  (refine CX.allocZ (cb zblk) ?_; intro s)
  by_cases h1 : n = 0
  · have e : putH n h = (zblk, 2) := by unfold putH; rw [if_pos (.inl h1)]
    rw [e]
    refine wk ?_
    (apply CX.ps; (· apply PS.buildZ (vs := cb zblk); (· rfl); (· simp [cb_z, Value.cells])))
    (apply CX.storeAll; (· rfl); (· rfl); (· rfl); (· first | exact pickA | exact updA); (· exact WB_z.len); (· exact WB_z.len); (· exact one_cb _))
    refine wk ?_
    ((apply CQ.end2; (· rfl); (· exact .cells inferInstance rfl (CellsAt.all (by first | exact pickA | exact updA)) (WB_z.len)); (· exact .tmp rfl)); (· exact ⟨rfl, rfl⟩); (· exact selA))
  by_cases h2 : 4611686018427387904 < n
  · have e : putH n h = (zblk, 2) := by unfold putH; rw [if_pos (.inr (.inl h2))]
    rw [e]
    refine wk ?_
    (apply CX.ps; (· apply PS.buildZ (vs := cb zblk); (· rfl); (· simp [cb_z, Value.cells])))
    (apply CX.storeAll; (· rfl); (· rfl); (· rfl); (· first | exact pickA | exact updA); (· exact WB_z.len); (· exact WB_z.len); (· exact one_cb _))
    refine wk ?_
    ((apply CQ.end2; (· rfl); (· exact .cells inferInstance rfl (CellsAt.all (by first | exact pickA | exact updA)) (WB_z.len)); (· exact .tmp rfl)); (· exact ⟨rfl, rfl⟩); (· exact selA))
  by_cases h3 : h.may
  · have e : putH n h = (sealB n h.bytes, 0) := by unfold putH; rw [if_neg]; rintro (q | q | q) <;> first | exact h1 q | exact h2 q | exact q h3
    have ep : putM n h.bytes = (sealB n h.bytes, 0) := by unfold putM; rw [if_neg h1, if_neg (by rw [bytes_len]; omega)]
    have wB : WB (sealB n h.bytes) := sealB_WB (by rw [bytes_len]; omega)
    rw [e]
    refine wk ?_
    ((apply CX.ps; (· apply PS.loadG (vs := hc h); (· rfl); (· rfl); (· exact CellsAt.all (by first | exact pickA | exact updA)); (· rfl))))
    (have cc := may_c h; simp only [decide_eq_true h3] at cc; refine CX.callA cc ?_; clear cc; rintro _ _ ⟨rfl, rfl⟩)
    refine wk ?_
    (apply CX.ps; (· apply PS.buildArr (out := [.int .u64 (h.bank : Int), .int .u64 (h.blocks : Int), .int .u64 (h.batches : Int)]); (· rfl); (· rfl); (· rfl)))
    refine wk ?_
    refine CC.ownNil 5 1 ?_
    refine CC.loop (X := Nat × Option Addr × Nat × Blk) (fun q => [(33, .int .i64 (q.1 : Int)), (6, .slice q.2.1 q.2.2.2.length q.2.2.1), (32, .agg [.int .u64 (h.bank : Int), .int .u64 (h.blocks : Int), .int .u64 (h.batches : Int)].toArray), (0, .int .u64 (n : Int)), (4, .pointer (some ⟨s, 0, none⟩))])
      (fun q => [own 5 1 q.2.1 q.2.2.2.length q.2.2.1 (cb q.2.2.2), bk s 59 (cb zblk), exact x]) (fun q => (q.1 = 0 ∧ q.2.2.2 = []) ∨ (q.1 = 1 ∧ q.2.2.2 = le 1 h.bank) ∨ (q.1 = 2 ∧ q.2.2.2 = le 1 h.bank ++ le 4 h.blocks) ∨ (q.1 = 3 ∧ q.2.2.2 = h.bytes)) (fun q => 3 - q.1)
      (0, none, 0, []) (.inl ⟨rfl, rfl⟩) ⟨rfl, rfl, rfl, rfl, rfl, trivial⟩ (by exact selA) ?_
    have step : ∀ (B : Blk) (v k : Nat), v < 256 ^ k → True := fun _ _ _ _ => trivial
    rintro ⟨i, a, c, B⟩ (⟨e1, e2⟩ | ⟨e1, e2⟩ | ⟨e1, e2⟩ | ⟨e1, e2⟩) <;> dsimp only at e1 e2 <;> subst e1 <;> subst e2
    · refine wk ?_
      refine CX.ps (PS.indexS (j := 0) rfl rfl rfl rfl (by decide) rfl) ?_
      refine wk ?_
      refine CX.callA (sizes_c) ?_
      rintro _ _ ⟨rfl, rfl⟩
      refine wk ?_
      refine CX.ps (PS.indexS (j := 0) rfl rfl rfl rfl (by decide) rfl) ?_
      refine CX.callA (nput_c h.bank 1 (by omega) (by omega)) ?_
      rintro _ _ ⟨pb, rfl, rfl⟩
      refine wk ?_
      apply CX.append (m := 1) (news := cb (le 1 h.bank))
      · rfl
      · rfl
      · rfl
      · first | exact pickA | exact updA
      · exact RdS.own (by first | exact pickA | exact updA) (one_cb _) rfl
      · simp
      · intro hh; cases hh
      intro a' c'
      rw [← cb_append]
      refine wk ?_
      exact CQ.round (x := (0, a, c, [])) (1, a', c', le 1 h.bank) (.inr (.inl ⟨rfl, rfl⟩)) (by dsimp only; omega) ⟨rfl, rfl, rfl, rfl, rfl, trivial⟩ (by exact selA)
    · refine wk ?_
      refine CX.ps (PS.indexS (j := 1) rfl rfl rfl rfl (by decide) rfl) ?_
      refine wk ?_
      refine CX.callA (sizes_c) ?_
      rintro _ _ ⟨rfl, rfl⟩
      refine wk ?_
      refine CX.ps (PS.indexS (j := 1) rfl rfl rfl rfl (by decide) rfl) ?_
      refine CX.callA (nput_c h.blocks 4 (by omega) (by omega)) ?_
      rintro _ _ ⟨pb, rfl, rfl⟩
      refine wk ?_
      apply CX.append (m := 4) (news := cb (le 4 h.blocks))
      · rfl
      · rfl
      · rfl
      · first | exact pickA | exact updA
      · exact RdS.own (by first | exact pickA | exact updA) (one_cb _) rfl
      · simp
      · intro hh; cases hh
      intro a' c'
      rw [← cb_append]
      refine wk ?_
      exact CQ.round (x := (1, a, c, le 1 h.bank)) (2, a', c', le 1 h.bank ++ le 4 h.blocks) (.inr (.inr (.inl ⟨rfl, rfl⟩))) (by dsimp only; omega) ⟨rfl, rfl, rfl, rfl, rfl, trivial⟩ (by exact selA)
    · refine wk ?_
      refine CX.ps (PS.indexS (j := 2) rfl rfl rfl rfl (by decide) rfl) ?_
      refine wk ?_
      refine CX.callA (sizes_c) ?_
      rintro _ _ ⟨rfl, rfl⟩
      refine wk ?_
      refine CX.ps (PS.indexS (j := 2) rfl rfl rfl rfl (by decide) rfl) ?_
      refine CX.callA (nput_c h.batches 4 (by omega) (by omega)) ?_
      rintro _ _ ⟨pb, rfl, rfl⟩
      refine wk ?_
      apply CX.append (m := 4) (news := cb (le 4 h.batches))
      · rfl
      · rfl
      · rfl
      · first | exact pickA | exact updA
      · exact RdS.own (by first | exact pickA | exact updA) (one_cb _) rfl
      · simp
      · intro hh; cases hh
      intro a' c'
      rw [← cb_append, List.append_assoc]
      refine wk ?_
      exact CQ.round (x := (2, a, c, le 1 h.bank ++ le 4 h.blocks)) (3, a', c', h.bytes) (.inr (.inr (.inr ⟨rfl, rfl⟩))) (by dsimp only; omega) ⟨rfl, rfl, rfl, rfl, rfl, trivial⟩ (by exact selA)
    · dsimp only
      refine wk ?_
      (have cc := sput_c n hn h.bytes (by rw [bytes_len]; omega) a c; simp only [ep] at cc; refine CX.callA cc ?_ (hpre := by exact rdx_own (e := 5) (by first | exact pickA | exact updA) rfl); clear cc; rintro _ _ ⟨rfl, rfl⟩)
      refine wk ?_
      (apply CX.storeAll; (· rfl); (· rfl); (· rfl); (· first | exact pickA | exact updA); (· exact wB.len); (· exact WB_z.len); (· exact one_cb _))
      refine wk ?_
      ((apply CQ.end2; (· rfl); (· exact .cells inferInstance rfl (CellsAt.all (by first | exact pickA | exact updA)) (wB.len)); (· exact .tmp rfl)); (· exact ⟨rfl, rfl⟩); (· exact selA))
  · have e : putH n h = (zblk, 2) := by unfold putH; rw [if_pos (.inr (.inr h3))]
    rw [e]
    refine wk ?_
    ((apply CX.ps; (· apply PS.loadG (vs := hc h); (· rfl); (· rfl); (· exact CellsAt.all (by first | exact pickA | exact updA)); (· rfl))))
    (have cc := may_c h; simp only [decide_eq_false h3] at cc; refine CX.callA cc ?_; clear cc; rintro _ _ ⟨rfl, rfl⟩)
    refine wk ?_
    (apply CX.ps; (· apply PS.buildZ (vs := cb zblk); (· rfl); (· simp [cb_z, Value.cells])))
    (apply CX.storeAll; (· rfl); (· rfl); (· rfl); (· first | exact pickA | exact updA); (· exact WB_z.len); (· exact WB_z.len); (· exact one_cb _))
    refine wk ?_
    ((apply CQ.end2; (· rfl); (· exact .cells inferInstance rfl (CellsAt.all (by first | exact pickA | exact updA)) (WB_z.len)); (· exact .tmp rfl)); (· exact ⟨rfl, rfl⟩); (· exact selA))
end Go.Proofs.YtlckhaodecdbbaaGreatDoor
/-! Heads (head), in the program: what is read. -/
namespace Go.Proofs.YtlckhaodecdbbaaGreatDoor
open Go.Cx
attribute [local irreducible] Go.Cx.CX Go.Cx.CC Go.Cx.CQ Go.Cx.PS Go.Cx.Ctr Go.Cx.CH
set_option maxRecDepth 10000
theorem slmax_c (C : Blk) (h0 : 0 < C.length) (hC : C.length ≤ 9223372036854775807) (a : Option Addr) (cap : Nat) : Ctr Tryz.prog 167 [.slice a C.length cap] [] (fun x => rdx a C.length (cb C) x) (fun v M => v = .int .u8 (maxB C : Int) ∧ M = []) := by
  refine Ctr.intro Tryz.func167 rfl Tryz.ntmps167 rfl fun x w hp => ?_
  obtain ⟨g, off, rfl⟩ := rdx_some hp h0
  have e1 : maxB (C.take 1) = C[0].toNat := by
    rw [List.take_succ_eq_append_getElem h0, maxB_snoc]; simp [maxB]
  refine wk ?_
  (refine CX.indexA (0) ?_ ?_; (· exact h0))
  (refine CX.loadA _ (CellAt.rd (j := 0) (by first | exact pickA | exact updA) hp rfl h0) ?_)
  rw [← e1]
  refine wk ?_
  refine CC.loop (X := Nat) (fun i => [(4, .int .i64 (i : Int)), (3, .int .u8 (maxB (C.take i) : Int)), (0, .slice (some ⟨g, off, none⟩) C.length cap)])
    (fun i => [exact x]) (fun i => 1 ≤ i ∧ i ≤ C.length) (fun i => C.length - i) 1 ⟨Nat.le_refl _, h0⟩ ⟨rfl, rfl, rfl, trivial⟩ (by exact selA) ?_
  rintro i ⟨hi0, hi⟩
  by_cases h1 : i < C.length
  · have e2 : maxB (C.take (i + 1)) = Max.max (maxB (C.take i)) C[i].toNat := by rw [List.take_succ_eq_append_getElem h1, maxB_snoc]
    refine wk ?_
    (refine CX.indexA (i) ?_ ?_; (· exact h1))
    (refine CX.loadA _ (CellAt.rd (j := i) (by first | exact pickA | exact updA) hp rfl h1) ?_)
    refine wk ?_
    exact CQ.round (i + 1) ⟨by omega, by omega⟩ (by omega) ⟨eqI (by omega), eqI (by rw [e2]; omega), rfl, trivial⟩ (by exact selA)
  · obtain rfl : i = C.length := by omega
    rw [List.take_length]
    refine wk ?_
    ((apply CQ.end1; (· rfl); (· exact .tmp rfl)); (· exact ⟨rfl, rfl⟩); (· exact selA))
def GotH (B : Blk) (v : Value) (M : List Assn) : Prop := v = .tuple #[.int .u64 ((getH B).1 : Int), .agg (hc (getH B).2.1).toArray, .int .i64 (getH B).2.2] ∧ M = []
theorem hget_c (B : Blk) (hB : WB B) : Ctr Tryz.prog 137 [.agg (cb B).toArray] [] (fun _ => True) (GotH B) := by
  have hB' : B.length = 128 := hB
  refine Ctr.intro Tryz.func137 rfl Tryz.ntmps137 rfl fun x w hp => ?_
  refine wk ?_
  (refine CX.boxA ?_; intro r)
  refine wk ?_
  refine CX.allocZ (hc HdM.z) ?_ (hv := rfl)
  intro rh
  refine wk ?_
  ((apply CX.ps; (· apply PS.loadG (vs := cb (B)); (· rfl); (· rfl); (· exact CellsAt.all (by first | exact pickA | exact updA)); (· exact hB.len))))
  refine CX.callA (sget_c B hB) ?_
  rintro _ _ ⟨a, c, rfl, rfl⟩
  by_cases he : (getM B).2.2 = 0
  · have hv := get_valid he
    have g := get_ok hv
    have hl : ((B.drop 8).take 108).length = 108 := by simp; omega
    have eb : (getM B).2.1 = (B.drop 8).take 108 := by rw [g]
    have hn : (getM B).1 < 18446744073709551616 := getM_lt B
    rw [eb, hl, he]
    have hH : getH B = if most < (getM B).1 ∨ ¬ (ofBody ((B.drop 8).take 108)).may ∨ ∃ c ∈ ((B.drop 8).take 108).drop 9, c ≠ 0 then (0, HdM.z, 5) else ((getM B).1, ofBody ((B.drop 8).take 108), 0) := by
      unfold getH; rw [if_neg (by simp [he]), eb]
    generalize (B.drop 8).take 108 = D at hl hH
    generalize (getM B).1 = n at hn hH
    refine CX.fact (own_fact (e := 5) (by first | exact pickA | exact updA) (by omega)) ?_
    rintro ⟨hc1, q, rfl⟩
    refine wk ?_
    (refine CX.allocA ?_; intro rl)
    refine wk ?_
    refine CX.callA (sizes_c) ?_
    rintro _ _ ⟨rfl, rfl⟩
    refine wk ?_
    have b1 := ofLe_tk D 1
    have b2 := ofLe_tk (D.drop 1) 4
    have b3 := ofLe_tk (D.drop 5) 4
    refine CC.loop (X := Nat × Nat × List Value) (fun s => [(23, .int .i64 (s.1 : Int)), (6, .slice (some ⟨q, s.2.1, none⟩) (108 - s.2.1) (c - s.2.1)), (22, .agg #[.int .i64 1, .int .i64 4, .int .i64 4]), (8, .pointer (some ⟨rl, 0, none⟩)), (5, .int .u64 (n : Int)), (3, .pointer (some ⟨rh, 0, none⟩))])
      (fun s => [own 5 1 (some ⟨q, 0, none⟩) 108 c (cb D), bk rl 224 s.2.2, bk rh 121 (hc HdM.z), exact x])
      (fun s => s = (0, 0, [.int .u64 0, .int .u64 0, .int .u64 0]) ∨ s = (1, 1, [.int .u64 (ofLe (D.take 1) : Int), .int .u64 0, .int .u64 0]) ∨ s = (2, 5, [.int .u64 (ofLe (D.take 1) : Int), .int .u64 (ofLe ((D.drop 1).take 4) : Int), .int .u64 0]) ∨
        s = (3, 9, [.int .u64 (ofLe (D.take 1) : Int), .int .u64 (ofLe ((D.drop 1).take 4) : Int), .int .u64 (ofLe ((D.drop 5).take 4) : Int)])) (fun s => 3 - s.1)
      (0, 0, [.int .u64 0, .int .u64 0, .int .u64 0]) (.inl rfl) ⟨rfl, rfl, rfl, rfl, rfl, rfl, trivial⟩ (by exact selA) ?_
    have pre : ∀ {L L' : List Assn} (k : Nat), k ≤ 108 → Pick (own 5 1 (some ⟨q, 0, none⟩) 108 c (cb D)) L L' → ∀ y, Sep L y → rdx (some ⟨q, k, none⟩) (108 - k) (cb (D.drop k)) y := fun k hk p y hy => by
      have := rdx_tail (rdx_own p hl.symm y hy) hl.symm k (by omega)
      rwa [hl] at this
    have num : ∀ (k m : Nat), m = 1 ∨ m = 4 → k + m ≤ 108 → Ctr Tryz.prog 96 [.slice (some ⟨q, k, none⟩) (108 - k) (c - k), .int .i64 0, .int .i64 (m : Int)] [] (fun x => rdx (some ⟨q, k, none⟩) (108 - k) (cb (D.drop k)) x) (fun v M => v = .tuple #[.int .u64 (ofLe ((D.drop k).take m) : Int), .int .i64 0] ∧ M = []) := fun k m hm hk => by
      have cc := nget_c (D.drop k) (some ⟨q, k, none⟩) (c - k) 0 (m : Int) (by simp; omega) (by omega) (by omega)
      rw [getN_from (by omega) (by simp; omega)] at cc
      have e1 : (D.drop k).length = 108 - k := by simp [hl]
      rw [e1] at cc
      exact cc
    rintro ⟨i, o, cs⟩ (h | h | h | h) <;> simp only [Prod.mk.injEq] at h <;> obtain ⟨rfl, rfl, rfl⟩ := h
    · dsimp only
      refine wk ?_
      refine CX.ps (PS.indexS (j := 0) rfl rfl rfl rfl (by decide) rfl) ?_
      refine wk ?_
      refine CX.callA (num 0 1 (by omega) (by omega)) ?_ (hpre := by exact pre 0 (by omega) (by first | exact pickA | exact updA))
      rintro _ _ ⟨rfl, rfl⟩
      refine wk ?_
      refine CX.ps (PS.indexArr (j := 0) rfl rfl rfl rfl (by omega)) ?_
      refine wk ?_
      refine CX.ps (PS.sliceLo (l := 1) rfl rfl rfl rfl (by omega) (by omega)) ?_
      rw [if_neg (by omega)]
      refine wk ?_
      exact CQ.round (x := (0, 0, [.int .u64 0, .int .u64 0, .int .u64 0])) (1, 1, [.int .u64 (ofLe (D.take 1) : Int), .int .u64 0, .int .u64 0]) (.inr (.inl rfl)) (by dsimp only; omega) ⟨rfl, rfl, rfl, rfl, rfl, rfl, trivial⟩ (by exact selA)
    · dsimp only
      refine wk ?_
      refine CX.ps (PS.indexS (j := 1) rfl rfl rfl rfl (by decide) rfl) ?_
      refine wk ?_
      refine CX.callA (num 1 4 (by omega) (by omega)) ?_ (hpre := by exact pre 1 (by omega) (by first | exact pickA | exact updA))
      rintro _ _ ⟨rfl, rfl⟩
      refine wk ?_
      refine CX.ps (PS.indexArr (j := 1) rfl rfl rfl rfl (by omega)) ?_
      refine wk ?_
      refine CX.ps (PS.sliceLo (l := 4) rfl rfl rfl rfl (by omega) (by omega)) ?_
      rw [if_neg (by omega)]
      refine wk ?_
      exact CQ.round (x := (1, 1, [.int .u64 (ofLe (D.take 1) : Int), .int .u64 0, .int .u64 0])) (2, 5, [.int .u64 (ofLe (D.take 1) : Int), .int .u64 (ofLe ((D.drop 1).take 4) : Int), .int .u64 0]) (.inr (.inr (.inl rfl))) (by dsimp only; omega) ⟨rfl, slE2 (by first | rfl | (dsimp only; omega)) (by first | rfl | omega | (dsimp only; omega)), rfl, rfl, rfl, rfl, trivial⟩ (by exact selA)
    · dsimp only
      refine wk ?_
      refine CX.ps (PS.indexS (j := 2) rfl rfl rfl rfl (by decide) rfl) ?_
      refine wk ?_
      refine CX.callA (num 5 4 (by omega) (by omega)) ?_ (hpre := by exact pre 5 (by omega) (by first | exact pickA | exact updA))
      rintro _ _ ⟨rfl, rfl⟩
      refine wk ?_
      refine CX.ps (PS.indexArr (j := 2) rfl rfl rfl rfl (by omega)) ?_
      refine wk ?_
      refine CX.ps (PS.sliceLo (l := 4) rfl rfl rfl rfl (by omega) (by omega)) ?_
      rw [if_neg (by omega)]
      refine wk ?_
      exact CQ.round (x := (2, 5, [.int .u64 (ofLe (D.take 1) : Int), .int .u64 (ofLe ((D.drop 1).take 4) : Int), .int .u64 0])) (3, 9, [.int .u64 (ofLe (D.take 1) : Int), .int .u64 (ofLe ((D.drop 1).take 4) : Int), .int .u64 (ofLe ((D.drop 5).take 4) : Int)]) (.inr (.inr (.inr rfl))) (by dsimp only; omega) ⟨rfl, slE2 (by first | rfl | (dsimp only; omega)) (by first | rfl | omega | (dsimp only; omega)), rfl, rfl, rfl, rfl, trivial⟩ (by exact selA)
    · dsimp only
      refine wk ?_
      refine CX.ps (PS.indexArr (j := 0) rfl rfl rfl rfl (by omega)) ?_
      refine wk ?_
      refine CX.ps (PS.indexArr (j := 1) rfl rfl rfl rfl (by omega)) ?_
      refine wk ?_
      refine CX.ps (PS.indexArr (j := 2) rfl rfl rfl rfl (by omega)) ?_
      refine wk ?_
      (apply CX.ps; (· apply PS.build (out := hc (ofBody D)); (· rfl); (· rfl); (· rfl)))
      refine CX.allocZ (hc HdM.z) ?_ (hv := rfl)
      intro rk
      (refine CX.storeB (vs := hc (ofBody D)) ?_ ?_ ?_ ?_; (· rfl); (· rfl); (· exact one_all rfl))
      by_cases h1 : 4611686018427387904 < n
      · have e : getH B = (0, HdM.z, 5) := by rw [hH, if_pos (.inl h1)]
        refine wk ?_
        (apply CX.ps; (· apply PS.build (vs := []) (out := hc HdM.z); (· rfl); (· rfl); (· rfl)))
        refine wk ?_
        (refine CX.storeB (vs := hc HdM.z) ?_ ?_ ?_ ?_; (· rfl); (· rfl); (· exact one_all rfl))
        refine wk ?_
        (apply CQ.end3; (· rfl); (· exact .tmp rfl); (· exact .cells inferInstance rfl (CellsAt.all (by first | exact pickA | exact updA)) rfl); (· exact .tmp rfl))
        · exact ⟨by rw [e] <;> rfl, rfl⟩
        · exact selA
      by_cases h2 : (ofBody D).may
      · by_cases h3 : ∃ c ∈ D.drop 9, c ≠ 0
        · have e : getH B = (0, HdM.z, 5) := by rw [hH, if_pos (.inr (.inr h3))]
          have hm := (maxB_pos (D.drop 9)).2 h3
          refine wk ?_
          ((apply CX.ps; (· apply PS.loadG (vs := hc (ofBody D)); (· rfl); (· rfl); (· exact CellsAt.all (by first | exact pickA | exact updA)); (· rfl))))
          (have cc := may_c (ofBody D); simp only [decide_eq_true h2] at cc; refine CX.callA cc ?_; clear cc; rintro _ _ ⟨rfl, rfl⟩)
          refine wk ?_
          have cc := slmax_c (D.drop 9) (by simp; omega) (by simp; omega) (some ⟨q, 9, none⟩) (c - 9)
          rw [show (D.drop 9).length = 108 - 9 by simp [hl]] at cc
          refine CX.callA (cc) ?_ (hpre := by exact pre 9 (by omega) (by first | exact pickA | exact updA))
          clear cc
          rintro _ _ ⟨rfl, rfl⟩
          refine wk ?_
          (apply CX.ps; (· apply PS.build (vs := []) (out := hc HdM.z); (· rfl); (· rfl); (· rfl)))
          refine wk ?_
          (refine CX.storeB (vs := hc HdM.z) ?_ ?_ ?_ ?_; (· rfl); (· rfl); (· exact one_all rfl))
          refine wk ?_
          (apply CQ.end3; (· rfl); (· exact .tmp rfl); (· exact .cells inferInstance rfl (CellsAt.all (by first | exact pickA | exact updA)) rfl); (· exact .tmp rfl))
          · exact ⟨by rw [e] <;> rfl, rfl⟩
          · exact selA
        · have e : getH B = (n, ofBody D, 0) := by
            rw [hH, if_neg]; rintro (k | k | k)
            · exact h1 k
            · exact k h2
            · exact h3 k
          have hm : maxB (D.drop 9) = 0 := by
            rcases Nat.eq_zero_or_pos (maxB (D.drop 9)) with k | k
            · exact k
            · exact absurd ((maxB_pos _).1 k) h3
          refine wk ?_
          ((apply CX.ps; (· apply PS.loadG (vs := hc (ofBody D)); (· rfl); (· rfl); (· exact CellsAt.all (by first | exact pickA | exact updA)); (· rfl))))
          (have cc := may_c (ofBody D); simp only [decide_eq_true h2] at cc; refine CX.callA cc ?_; clear cc; rintro _ _ ⟨rfl, rfl⟩)
          refine wk ?_
          have cc := slmax_c (D.drop 9) (by simp; omega) (by simp; omega) (some ⟨q, 9, none⟩) (c - 9)
          rw [show (D.drop 9).length = 108 - 9 by simp [hl], hm] at cc
          refine CX.callA (cc) ?_ (hpre := by exact pre 9 (by omega) (by first | exact pickA | exact updA))
          clear cc
          rintro _ _ ⟨rfl, rfl⟩
          refine wk ?_
          refine CC.draw [(0, 0), (1, 1), (2, 0), (3, 3), (4, 0)] mixed rfl (by kernel_rfl) (by kernel_rfl) [bk rk 121 (hc (ofBody D))] ?_
          refine hwk ?_
          (apply CH.read; (· rfl); (· apply PS.loadG (vs := hc (ofBody D)); (· rfl); (· rfl); (· exact CellsAt.all (by first | exact pickA | exact updA)); (· rfl)); (· exact selA))
          refine hwk ?_
          refine CH.tail rfl rfl fun K hK => ?_
          (refine CX.storeB (vs := hc (ofBody D)) ?_ ?_ ?_ ?_; (· rfl); (· rfl); (· exact one_all rfl))
          (refine CX.nil ?_; refine CQ.thenK ?_; apply hK; clear hK K)
          refine hwk ?_
          refine wk ?_
          (apply CQ.end3; (· rfl); (· exact .tmp rfl); (· exact .cells inferInstance rfl (CellsAt.all (by first | exact pickA | exact updA)) rfl); (· exact .tmp rfl))
          · exact ⟨by rw [e] <;> rfl, rfl⟩
          · exact selA
      · have e : getH B = (0, HdM.z, 5) := by rw [hH, if_pos (.inr (.inl h2))]
        refine wk ?_
        ((apply CX.ps; (· apply PS.loadG (vs := hc (ofBody D)); (· rfl); (· rfl); (· exact CellsAt.all (by first | exact pickA | exact updA)); (· rfl))))
        (have cc := may_c (ofBody D); simp only [decide_eq_false h2] at cc; refine CX.callA cc ?_; clear cc; rintro _ _ ⟨rfl, rfl⟩)
        refine wk ?_
        (apply CX.ps; (· apply PS.build (vs := []) (out := hc HdM.z); (· rfl); (· rfl); (· rfl)))
        refine wk ?_
        (refine CX.storeB (vs := hc HdM.z) ?_ ?_ ?_ ?_; (· rfl); (· rfl); (· exact one_all rfl))
        refine wk ?_
        (apply CQ.end3; (· rfl); (· exact .tmp rfl); (· exact .cells inferInstance rfl (CellsAt.all (by first | exact pickA | exact updA)) rfl); (· exact .tmp rfl))
        · exact ⟨by rw [e] <;> rfl, rfl⟩
        · exact selA
  · have e : getH B = (0, HdM.z, (getM B).2.2) := by unfold getH; rw [if_pos he]
    generalize (getM B).2.2 = er at he e
    refine wk ?_
    (apply CX.ps; (· apply PS.build (vs := []) (out := hc HdM.z); (· rfl); (· rfl); (· rfl)))
    refine wk ?_
    (refine CX.storeB (vs := hc HdM.z) ?_ ?_ ?_ ?_; (· rfl); (· rfl); (· exact one_all rfl))
    refine wk ?_
    (apply CQ.end3; (· rfl); (· exact .tmp rfl); (· exact .cells inferInstance rfl (CellsAt.all (by first | exact pickA | exact updA)) rfl); (· exact .tmp rfl))
    · exact ⟨by rw [e] <;> rfl, rfl⟩
    · exact selA
theorem hnewest_c (A B : Blk) (hA : WB A) (hB : WB B) : Ctr Tryz.prog 93 [.agg (cb A).toArray, .agg (cb B).toArray] [] (fun _ => True)
    (fun v M => v = .tuple #[.int .u64 ((newH A B).1 : Int), .agg (hc (newH A B).2.1).toArray, .int .i64 (newH A B).2.2] ∧ M = []) := by
  refine Ctr.intro Tryz.func93 rfl Tryz.ntmps93 rfl fun x w hp => ?_
  refine wk ?_
  (refine CX.boxA ?_; intro r)
  refine wk ?_
  (refine CX.boxA ?_; intro s)
  refine wk ?_
  refine CX.allocZ (hc HdM.z) ?_ (hv := rfl)
  intro ro
  refine wk ?_
  ((apply CX.ps; (· apply PS.loadG (vs := cb (A)); (· rfl); (· rfl); (· exact CellsAt.all (by first | exact pickA | exact updA)); (· exact hA.len))))
  refine CX.callA (hget_c A hA) ?_
  rintro _ _ ⟨rfl, rfl⟩
  refine wk ?_
  refine CX.allocZ (hc HdM.z) ?_ (hv := rfl)
  intro ra
  refine wk ?_
  (refine CX.storeB (vs := hc (getH A).2.1) ?_ ?_ ?_ ?_; (· rfl); (· rfl); (· exact one_all rfl))
  refine wk ?_
  ((apply CX.ps; (· apply PS.loadG (vs := cb (B)); (· rfl); (· rfl); (· exact CellsAt.all (by first | exact pickA | exact updA)); (· exact hB.len))))
  refine CX.callA (hget_c B hB) ?_
  rintro _ _ ⟨rfl, rfl⟩
  refine wk ?_
  refine CX.allocZ (hc HdM.z) ?_ (hv := rfl)
  intro rb
  refine wk ?_
  (refine CX.storeB (vs := hc (getH B).2.1) ?_ ?_ ?_ ?_; (· rfl); (· rfl); (· exact one_all rfl))
  have eN : newH A B = if (getH A).2.2 ≠ 0 ∧ (getH B).2.2 ≠ 0 then (0, HdM.z, 7) else if (getH A).2.2 ≠ 0 ∨ ((getH B).2.2 = 0 ∧ (getH A).1 < (getH B).1) then ((getH B).1, (getH B).2.1, 0) else ((getH A).1, (getH A).2.1, 0) := rfl
  generalize newH A B = N at eN
  generalize (getH A).2.2 = ea at eN
  generalize (getH B).2.2 = eb at eN
  generalize (getH A).1 = na at eN
  generalize (getH B).1 = nb at eN
  generalize (getH A).2.1 = ka at eN
  generalize (getH B).2.1 = kb at eN
  by_cases h1 : ea = 0
  · by_cases h2 : eb = 0 ∧ na < nb
    · obtain ⟨h3, h4⟩ := h2
      have e : N = (nb, kb, 0) := by rw [eN, if_neg (by simp [h1]), if_pos (.inr ⟨h3, h4⟩)]
      refine wk ?_
      refine CC.draw [(0, 0), (1, 1), (2, 0), (3, 3), (4, 0)] mixed rfl (by kernel_rfl) (by kernel_rfl) [bk rb 121 (hc kb)] ?_
      refine hwk ?_
      (apply CH.read; (· rfl); (· apply PS.loadG (vs := hc kb); (· rfl); (· rfl); (· exact CellsAt.all (by first | exact pickA | exact updA)); (· rfl)); (· exact selA))
      refine hwk ?_
      refine CH.tail rfl rfl fun K hK => ?_
      (refine CX.storeB (vs := hc kb) ?_ ?_ ?_ ?_; (· rfl); (· rfl); (· exact one_all rfl))
      (refine CX.nil ?_; refine CQ.thenK ?_; apply hK; clear hK K)
      refine hwk ?_
      refine wk ?_
      (apply CQ.end3; (· rfl); (· exact .tmp rfl); (· exact .cells inferInstance rfl (CellsAt.all (by first | exact pickA | exact updA)) rfl); (· exact .tmp rfl))
      · exact ⟨by rw [e] <;> rfl, rfl⟩
      · exact selA
    · have e : N = (na, ka, 0) := by rw [eN, if_neg (by simp [h1]), if_neg (by simp [h1]; omega)]
      by_cases h3 : eb = 0
      · have h4 : ¬ na < nb := fun q => h2 ⟨h3, q⟩
        refine wk ?_
        refine CC.draw [(0, 0), (1, 1), (2, 0), (3, 3), (4, 0)] mixed rfl (by kernel_rfl) (by kernel_rfl) [bk ra 121 (hc ka)] ?_
        refine hwk ?_
        (apply CH.read; (· rfl); (· apply PS.loadG (vs := hc ka); (· rfl); (· rfl); (· exact CellsAt.all (by first | exact pickA | exact updA)); (· rfl)); (· exact selA))
        refine hwk ?_
        refine CH.tail rfl rfl fun K hK => ?_
        (refine CX.storeB (vs := hc ka) ?_ ?_ ?_ ?_; (· rfl); (· rfl); (· exact one_all rfl))
        (refine CX.nil ?_; refine CQ.thenK ?_; apply hK; clear hK K)
        refine hwk ?_
        refine wk ?_
        (apply CQ.end3; (· rfl); (· exact .tmp rfl); (· exact .cells inferInstance rfl (CellsAt.all (by first | exact pickA | exact updA)) rfl); (· exact .tmp rfl))
        · exact ⟨by rw [e] <;> rfl, rfl⟩
        · exact selA
      · refine wk ?_
        refine CC.draw [(0, 0), (1, 1), (2, 0), (3, 3), (4, 0)] mixed rfl (by kernel_rfl) (by kernel_rfl) [bk ra 121 (hc ka)] ?_
        refine hwk ?_
        (apply CH.read; (· rfl); (· apply PS.loadG (vs := hc ka); (· rfl); (· rfl); (· exact CellsAt.all (by first | exact pickA | exact updA)); (· rfl)); (· exact selA))
        refine hwk ?_
        refine CH.tail rfl rfl fun K hK => ?_
        (refine CX.storeB (vs := hc ka) ?_ ?_ ?_ ?_; (· rfl); (· rfl); (· exact one_all rfl))
        (refine CX.nil ?_; refine CQ.thenK ?_; apply hK; clear hK K)
        refine hwk ?_
        refine wk ?_
        (apply CQ.end3; (· rfl); (· exact .tmp rfl); (· exact .cells inferInstance rfl (CellsAt.all (by first | exact pickA | exact updA)) rfl); (· exact .tmp rfl))
        · exact ⟨by rw [e] <;> rfl, rfl⟩
        · exact selA
  · by_cases h2 : eb = 0
    · have e : N = (nb, kb, 0) := by rw [eN, if_neg (by simp [h2]), if_pos (.inl h1)]
      refine wk ?_
      refine CC.draw [(0, 0), (1, 1), (2, 0), (3, 3), (4, 0)] mixed rfl (by kernel_rfl) (by kernel_rfl) [bk rb 121 (hc kb)] ?_
      refine hwk ?_
      (apply CH.read; (· rfl); (· apply PS.loadG (vs := hc kb); (· rfl); (· rfl); (· exact CellsAt.all (by first | exact pickA | exact updA)); (· rfl)); (· exact selA))
      refine hwk ?_
      refine CH.tail rfl rfl fun K hK => ?_
      (refine CX.storeB (vs := hc kb) ?_ ?_ ?_ ?_; (· rfl); (· rfl); (· exact one_all rfl))
      (refine CX.nil ?_; refine CQ.thenK ?_; apply hK; clear hK K)
      refine hwk ?_
      refine wk ?_
      (apply CQ.end3; (· rfl); (· exact .tmp rfl); (· exact .cells inferInstance rfl (CellsAt.all (by first | exact pickA | exact updA)) rfl); (· exact .tmp rfl))
      · exact ⟨by rw [e] <;> rfl, rfl⟩
      · exact selA
    · have e : N = (0, HdM.z, 7) := by rw [eN, if_pos ⟨h1, h2⟩]
      refine wk ?_
      (apply CX.ps; (· apply PS.build (vs := []) (out := hc HdM.z); (· rfl); (· rfl); (· rfl)))
      refine wk ?_
      (refine CX.storeB (vs := hc HdM.z) ?_ ?_ ?_ ?_; (· rfl); (· rfl); (· exact one_all rfl))
      refine wk ?_
      (apply CQ.end3; (· rfl); (· exact .tmp rfl); (· exact .cells inferInstance rfl (CellsAt.all (by first | exact pickA | exact updA)) rfl); (· exact .tmp rfl))
      · exact ⟨by rw [e] <;> rfl, rfl⟩
      · exact selA
end Go.Proofs.YtlckhaodecdbbaaGreatDoor
/-! The disk's methods: what each does, by the plain words of DkM. -/
namespace Go.Proofs.YtlckhaodecdbbaaGreatDoor
open Go.Cx
attribute [local irreducible] Go.Cx.CX Go.Cx.CC Go.Cx.CQ Go.Cx.PS Go.Cx.Ctr Go.Cx.CH
set_option maxRecDepth 10000

/-- A disk's struct and its two slices. -/
@[irreducible] def disk (p : Nat) (D : DS) : Assn :=
  exA (X := Nat × Nat × Option Addr × Nat) (fun _ => True) fun q =>
    [bk p 76 [.slice (some ⟨q.1, 0, none⟩) D.sure.length q.2.1, .slice q.2.2.1 D.loose.length q.2.2.2, .int .i64 D.left, .int .i64 (D.steps : Int), .bool D.dark],
     own 59 128 (some ⟨q.1, 0, none⟩) D.sure.length q.2.1 (flat D.sure), own 142 129 q.2.2.1 D.loose.length q.2.2.2 (flatL D.loose)]
theorem disk_eq (p : Nat) (D : DS) : disk p D = exA (X := Nat × Nat × Option Addr × Nat) (fun _ => True) fun q =>
    [bk p 76 [.slice (some ⟨q.1, 0, none⟩) D.sure.length q.2.1, .slice q.2.2.1 D.loose.length q.2.2.2, .int .i64 D.left, .int .i64 (D.steps : Int), .bool D.dark],
     own 59 128 (some ⟨q.1, 0, none⟩) D.sure.length q.2.1 (flat D.sure), own 142 129 q.2.2.1 D.loose.length q.2.2.2 (flatL D.loose)] := by unfold disk; rfl

theorem there_ok {D : DS} {n : Int} (h : D.there n = 0) : ∃ k : Nat, n = (k : Int) ∧ k < D.sure.length := by
  unfold DS.there errOf at h
  split at h
  · exact ⟨n.toNat, by omega, by omega⟩
  · cases h
theorem sure_at {D : DS} {N k : Nat} (h : D.wf N) (hk : k < D.sure.length) : ((flat D.sure).drop (0 + k * 128)).take (cb D.sure[k]).length = cb D.sure[k] := by
  have hl : ∀ x ∈ D.sure, (cb x).length = 128 := fun x hx => (h.wb x hx).len
  have := rows_get cb 128 D.sure hl k hk 0 128 (by omega)
  rw [Nat.zero_add, hl _ (by simp)]
  simp only [Nat.add_zero, List.drop_zero] at this
  rw [flat, this, List.take_of_length_le (by rw [hl _ (by simp)]; omega)]
theorem step_wf {D : DS} {N : Nat} (h : D.wf N) : D.step.2.wf (N + 1) := by
  have h1 := h.left0; have h2 := h.left1; have h3 := h.steps; have h4 := h.loose
  unfold DS.step
  split
  · exact ⟨h.lo, h.hi, h.wb, h.lb, h1, h2, by simp; omega, by simp; omega⟩
  · exact ⟨h.lo, h.hi, h.wb, h.lb, by simp; omega, by simp; omega, by simp; omega, by simp; omega⟩
theorem none_c (p : Nat) (D : DS) : Ctr Tryz.prog 49 [.pointer (some ⟨p, 0, none⟩)] [disk p D] (fun _ => True) (fun v M => v = .bool false ∧ M = [disk p D]) := by
  refine Ctr.intro Tryz.func49 rfl Tryz.ntmps49 rfl fun x w hp => ?_
  (refine CC.openL (disk_eq p _) (by first | exact pickA | exact updA) ?_; rintro ⟨sb, sc, la, lc⟩ -)
  refine wk ?_
  (refine CQ.shutL (disk_eq p D) (_, _, _, _) trivial (by exact selA) ?_)
  ((apply CQ.end1; (· rfl); (· exact .tmp rfl)); (· exact ⟨rfl, rfl⟩); (· exact selA))

theorem there_c (p : Nat) (D : DS) (n : Int) : Ctr Tryz.prog 71 [.pointer (some ⟨p, 0, none⟩), .int .i64 n] [disk p D] (fun _ => True) (fun v M => v = .int .i64 (D.there n) ∧ M = [disk p D]) := by
  refine Ctr.intro Tryz.func71 rfl Tryz.ntmps71 rfl fun x w hp => ?_
  refine wk ?_
  refine CX.callA (none_c p D) ?_
  rintro _ _ ⟨rfl, rfl⟩
  (refine CX.openL (disk_eq p _) (by first | exact pickA | exact updA) ?_; rintro ⟨sb, sc, la, lc⟩ -)
  by_cases h1 : n < 0
  · refine wk ?_
    (refine CQ.shutL (disk_eq p D) (_, _, _, _) trivial (by exact selA) ?_)
    ((apply CQ.end1; (· rfl); (· exact .tmp rfl)); (· exact ⟨by simp [DS.there, errOf]; omega, rfl⟩); (· exact selA))
  by_cases h2 : (D.sure.length : Int) ≤ n
  · refine wk ?_
    (refine CQ.shutL (disk_eq p D) (_, _, _, _) trivial (by exact selA) ?_)
    ((apply CQ.end1; (· rfl); (· exact .tmp rfl)); (· exact ⟨by simp [DS.there, errOf]; omega, rfl⟩); (· exact selA))
  · refine wk ?_
    (refine CQ.shutL (disk_eq p D) (_, _, _, _) trivial (by exact selA) ?_)
    ((apply CQ.end1; (· rfl); (· exact .tmp rfl)); (· exact ⟨by simp [DS.there, errOf]; omega, rfl⟩); (· exact selA))

theorem lit_c (p : Nat) (D : DS) (n : Int) : Ctr Tryz.prog 43 [.pointer (some ⟨p, 0, none⟩), .int .i64 n] [disk p D] (fun _ => True) (fun v M => v = .int .i64 (D.lit n) ∧ M = [disk p D]) := by
  obtain ⟨S, l, left, steps, dark⟩ := D
  refine Ctr.intro Tryz.func43 rfl Tryz.ntmps43 rfl fun x w hp => ?_
  refine wk ?_
  refine CX.callA (none_c p _) ?_
  rintro _ _ ⟨rfl, rfl⟩
  (refine CX.openL (disk_eq p _) (by first | exact pickA | exact updA) ?_; rintro ⟨sb, sc, la, lc⟩ -)
  cases dark
  · refine wk ?_
    (refine CX.shutL (disk_eq p ⟨S, l, left, steps, false⟩) (_, _, _, _) trivial (by exact selA) ?_)
    refine CX.callA (there_c p _ n) ?_
    rintro _ _ ⟨rfl, rfl⟩
    refine wk ?_
    ((apply CQ.end1; (· rfl); (· exact .tmp rfl)); (· exact ⟨rfl, rfl⟩); (· exact selA))
  · refine wk ?_
    (refine CQ.shutL (disk_eq p ⟨S, l, left, steps, true⟩) (_, _, _, _) trivial (by exact selA) ?_)
    ((apply CQ.end1; (· rfl); (· exact .tmp rfl)); (· exact ⟨rfl, rfl⟩); (· exact selA))

theorem step_c (p : Nat) (D : DS) {N : Nat} (h : D.wf N) (hN : N < 1000000) : Ctr Tryz.prog 153 [.pointer (some ⟨p, 0, none⟩)] [disk p D] (fun _ => True) (fun v M => v = .int .i64 D.step.1 ∧ M = [disk p D.step.2]) := by
  have hl0 := h.left0
  have hl1 := h.left1
  have hs := h.steps
  obtain ⟨S, l, left, steps, dark⟩ := D
  simp only at hl0 hl1 hs
  refine Ctr.intro Tryz.func153 rfl Tryz.ntmps153 rfl fun x w hp => ?_
  (refine CC.openL (disk_eq p _) (by first | exact pickA | exact updA) ?_; rintro ⟨sb, sc, la, lc⟩ -)
  by_cases h1 : left = 1
  · subst h1
    refine wk ?_
    (refine CQ.shutL (disk_eq p ⟨S, l, 1, steps, true⟩) (_, _, _, _) trivial (by exact selA) ?_)
    ((apply CQ.end1; (· rfl); (· exact .tmp rfl)); (· exact ⟨rfl, rfl⟩); (· exact selA))
  · refine wk ?_
    (refine CQ.shutL (disk_eq p ⟨S, l, max (left - 1) 0, steps + 1, dark⟩) (_, _, _, _) trivial (by exact selA) ?_)
    (apply CQ.end1; (· rfl); (· exact .tmp rfl))
    · exact ⟨by simp [DS.step, h1], rfl⟩
    · simp only [DS.step, h1, if_false]; exact selA

theorem blocks_c (p : Nat) (D : DS) : Ctr Tryz.prog 72 [.pointer (some ⟨p, 0, none⟩)] [disk p D] (fun _ => True) (fun v M => v = .int .i64 D.sure.length ∧ M = [disk p D]) := by
  refine Ctr.intro Tryz.func72 rfl Tryz.ntmps72 rfl fun x w hp => ?_
  refine wk ?_
  refine CX.callA (none_c p _) ?_
  rintro _ _ ⟨rfl, rfl⟩
  (refine CX.openL (disk_eq p _) (by first | exact pickA | exact updA) ?_; rintro ⟨sb, sc, la, lc⟩ -)
  refine wk ?_
  (refine CQ.shutL (disk_eq p D) (_, _, _, _) trivial (by exact selA) ?_)
  ((apply CQ.end1; (· rfl); (· exact .tmp rfl)); (· exact ⟨rfl, rfl⟩); (· exact selA))
theorem dark_c (p : Nat) (D : DS) : Ctr Tryz.prog 23 [.pointer (some ⟨p, 0, none⟩)] [disk p D] (fun _ => True) (fun v M => v = .bool D.dark ∧ M = [disk p D]) := by
  refine Ctr.intro Tryz.func23 rfl Tryz.ntmps23 rfl fun x w hp => ?_
  refine wk ?_
  refine CX.callA (none_c p _) ?_
  rintro _ _ ⟨rfl, rfl⟩
  (refine CX.openL (disk_eq p _) (by first | exact pickA | exact updA) ?_; rintro ⟨sb, sc, la, lc⟩ -)
  refine wk ?_
  (refine CQ.shutL (disk_eq p D) (_, _, _, _) trivial (by exact selA) ?_)
  ((apply CQ.end1; (· rfl); (· exact .tmp rfl)); (· exact ⟨rfl, rfl⟩); (· exact selA))
theorem sure_c (p : Nat) (D : DS) (n : Int) {N : Nat} (h : D.wf N) : Ctr Tryz.prog 32 [.pointer (some ⟨p, 0, none⟩), .int .i64 n] [disk p D] (fun _ => True) (fun v M => v = .tuple #[.agg (cb (D.sureAt n).1).toArray, .int .i64 (D.sureAt n).2] ∧ M = [disk p D]) := by
  refine Ctr.intro Tryz.func32 rfl Tryz.ntmps32 rfl fun x w hp => ?_
  refine wk ?_
  (refine CX.allocZ (cb zblk) ?_; intro r)
  refine wk ?_
  refine CX.callA (there_c p D n) ?_
  rintro _ _ ⟨rfl, rfl⟩
  by_cases h0 : D.there n = 0
  · obtain ⟨k, rfl, hk⟩ := there_ok h0
    have hb : WB D.sure[k] := h.wb _ (by simp)
    (refine CX.openL (disk_eq p _) (by first | exact pickA | exact updA) ?_; rintro ⟨sb, sc, la, lc⟩ -)
    refine wk ?_
    (refine CX.indexA (k) ?_ ?_; (· exact hk))
    (apply CX.ps; (· apply PS.loadG (vs := cb D.sure[k]); (· rfl); (· rfl); (· exact CellsAt.own (by first | exact pickA | exact updA) (sure_at h hk)); (· exact hb.len)))
    (apply CX.storeAll; (· rfl); (· rfl); (· rfl); (· first | exact pickA | exact updA); (· exact hb.len); (· exact WB_z.len); (· exact one_cb _))
    refine wk ?_
    (refine CQ.shutL (disk_eq p D) (_, _, _, _) trivial (by exact selA) ?_)
    ((apply CQ.end2; (· rfl); (· exact .cells inferInstance rfl (CellsAt.all (by first | exact pickA | exact updA)) (hb.len)); (· exact .tmp rfl)); (· exact ⟨by simp [DS.sureAt, h0, hk], rfl⟩); (· exact selA))
  · refine wk ?_
    (apply CX.ps; (· apply PS.buildZ (vs := cb zblk); (· rfl); (· simp [cb_z, Value.cells])))
    refine wk ?_
    (apply CX.storeAll; (· rfl); (· rfl); (· rfl); (· first | exact pickA | exact updA); (· exact WB_z.len); (· exact WB_z.len); (· exact one_cb _))
    refine wk ?_
    ((apply CQ.end2; (· rfl); (· exact .cells inferInstance rfl (CellsAt.all (by first | exact pickA | exact updA)) (WB_z.len)); (· exact .tmp rfl)); (· exact ⟨by simp [DS.sureAt, h0], rfl⟩); (· exact selA))
theorem arm_c (p : Nat) (D : DS) (n : Int) : Ctr Tryz.prog 12 [.pointer (some ⟨p, 0, none⟩), .int .i64 n] [disk p D] (fun _ => True) (fun v M => v = .int .i64 (D.arm n).1 ∧ M = [disk p (D.arm n).2]) := by
  obtain ⟨S, l, left, steps, dark⟩ := D
  refine Ctr.intro Tryz.func12 rfl Tryz.ntmps12 rfl fun x w hp => ?_
  refine wk ?_
  refine CX.callA (lit_c p _ 0) ?_
  rintro _ _ ⟨rfl, rfl⟩
  by_cases h0 : DS.lit ⟨S, l, left, steps, dark⟩ 0 = 0
  · by_cases h1 : n < 0
    · refine wk ?_
      (apply CQ.end1; (· rfl); (· exact .tmp rfl))
      · exact ⟨by simp [DS.arm, h1, h0], rfl⟩
      · simp only [DS.arm, h1, h0, ne_eq, not_true, if_false, if_true]; exact selA
    · refine wk ?_
      (refine CX.openL (disk_eq p _) (by first | exact pickA | exact updA) ?_; rintro ⟨sb, sc, la, lc⟩ -)
      refine wk ?_
      (refine CQ.shutL (disk_eq p ⟨S, l, n, steps, dark⟩) (_, _, _, _) trivial (by exact selA) ?_)
      (apply CQ.end1; (· rfl); (· exact .tmp rfl))
      · exact ⟨by simp [DS.arm, h1, h0], rfl⟩
      · simp only [DS.arm, h1, h0, ne_eq, not_true, if_false, if_true]; exact selA
  · refine wk ?_
    (apply CQ.end1; (· rfl); (· exact .tmp rfl))
    · exact ⟨by simp [DS.arm, h0], rfl⟩
    · simp only [DS.arm, h0, ne_eq, not_false_eq_true, if_false, if_true]; exact selA
/-- A disk's parts. -/
abbrev DL (p : Nat) (D : DS) (sb sc : Nat) (la : Option Addr) (lc : Nat) : List Assn :=
    [bk p 76 [.slice (some ⟨sb, 0, none⟩) D.sure.length sc, .slice la D.loose.length lc, .int .i64 D.left, .int .i64 (D.steps : Int), .bool D.dark],
     own 59 128 (some ⟨sb, 0, none⟩) D.sure.length sc (flat D.sure), own 142 129 la D.loose.length lc (flatL D.loose)]
theorem read_c (p : Nat) (D : DS) (n : Int) {N : Nat} (h : D.wf N) (hN : N < 1000000) : Ctr Tryz.prog 136 [.pointer (some ⟨p, 0, none⟩), .int .i64 n] [disk p D] (fun _ => True) (fun v M => v = .tuple #[.agg (cb (D.read n).1).toArray, .int .i64 (D.read n).2] ∧ M = [disk p D]) := by
  have hlo := h.loose
  have hlb : ∀ p ∈ D.loose, WB p.2 := fun p hp => (h.lb p hp).2
  refine Ctr.intro Tryz.func136 rfl Tryz.ntmps136 rfl fun x w hp => ?_
  refine wk ?_
  (refine CX.allocZ (cb zblk) ?_; intro r)
  refine wk ?_
  refine CX.callA (lit_c p D n) ?_
  rintro _ _ ⟨rfl, rfl⟩
  by_cases h0 : D.lit n = 0
  · have h1 : D.there n = 0 := by unfold DS.lit at h0; split at h0; cases h0; exact h0
    obtain ⟨k, rfl, hk⟩ := there_ok h1
    have hb : WB D.sure[k] := h.wb _ (by simp)
    have hr : D.read k = (match lastOf D.loose k with | some p => p.2 | none => D.sure[k], 0) := by simp [DS.read, h0, DS.get, lastOf, hk]; rfl
    (refine CX.openL (disk_eq p _) (by first | exact pickA | exact updA) ?_; rintro ⟨sb, sc, la, lc⟩ -)
    refine wk ?_
    refine CC.loop (X := Nat) (fun m => [(7, .int .i64 ((m : Int) - 1)), (0, .pointer (some ⟨p, 0, none⟩)), (1, .int .i64 (k : Int)), (4, .pointer (some ⟨r, 0, none⟩))]) (fun _ => DL p D sb sc la lc ++ [bk r 59 (cb zblk), exact x])
      (fun m => m ≤ D.loose.length ∧ lastOf D.loose k = lastOf (D.loose.take m) k) (fun m => m) D.loose.length ⟨Nat.le_refl _, by simp⟩ ⟨rfl, rfl, rfl, rfl, trivial⟩ (by exact selA) ?_
    rintro (_ | j) ⟨hj, hg⟩
    · refine wk ?_
      (refine CX.indexA (k) ?_ ?_; (· exact hk))
      (apply CX.ps; (· apply PS.loadG (vs := cb D.sure[k]); (· rfl); (· rfl); (· exact CellsAt.own (by first | exact pickA | exact updA) (sure_at h hk)); (· exact hb.len)))
      (apply CX.storeAll; (· rfl); (· rfl); (· rfl); (· first | exact pickA | exact updA); (· exact hb.len); (· exact WB_z.len); (· exact one_cb _))
      refine wk ?_
      (refine CQ.shutL (disk_eq p D) (_, _, _, _) trivial (by exact selA) ?_)
      ((apply CQ.end2; (· rfl); (· exact .cells inferInstance rfl (CellsAt.all (by first | exact pickA | exact updA)) (hb.len)); (· exact .tmp rfl)); (· exact ⟨by rw [hr, hg]; simp [lastOf], rfl⟩); (· exact selA))
    · have hjl : j < D.loose.length := by omega
      rw [lastOf_succ _ _ _ hjl] at hg
      have hb' : WB D.loose[j].2 := hlb _ (by simp)
      refine wk ?_
      (refine CX.indexOA (j) ?_ ?_; (· exact hjl); rintro g rfl)
      refine wk ?_
      (apply CX.ps; (· apply PS.load (v := .int .i64 (D.loose[j].1 : Int)); (· rfl); (· rfl); (· exact CellAt.own (by first | exact pickA | exact updA) (flatL_n _ hlb j hjl))))
      by_cases he : D.loose[j].1 = k
      · have he' : (D.loose[j].1 : Int) = k := by omega
        refine wk ?_
        (refine CX.indexA (j) ?_ ?_; (· exact hjl))
        refine wk ?_
        (apply CX.ps; (· apply PS.loadG (vs := cb D.loose[j].2); (· rfl); (· rfl); (· exact CellsAt.own (by first | exact pickA | exact updA) (by rw [hb'.len, Nat.zero_add]; exact flatL_b _ hlb j hjl)); (· exact hb'.len)))
        (apply CX.storeAll; (· rfl); (· rfl); (· rfl); (· first | exact pickA | exact updA); (· exact hb'.len); (· exact WB_z.len); (· exact one_cb _))
        refine wk ?_
        (refine CQ.shutL (disk_eq p D) (_, _, _, _) trivial (by exact selA) ?_)
        ((apply CQ.end2; (· rfl); (· exact .cells inferInstance rfl (CellsAt.all (by first | exact pickA | exact updA)) (hb'.len)); (· exact .tmp rfl)); (· exact ⟨by rw [hr, hg]; simp [he], rfl⟩); (· exact selA))
      · have he' : ¬ (D.loose[j].1 : Int) = k := by omega
        refine wk ?_
        refine CQ.round j ⟨by omega, by rw [hg, if_neg he]⟩ (Nat.lt_succ_self _) ⟨eqI (by omega), rfl, rfl, rfl, trivial⟩ (by exact selA)
  · refine wk ?_
    (apply CX.ps; (· apply PS.buildZ (vs := cb zblk); (· rfl); (· simp [cb_z, Value.cells])))
    refine wk ?_
    (apply CX.storeAll; (· rfl); (· rfl); (· rfl); (· first | exact pickA | exact updA); (· exact WB_z.len); (· exact WB_z.len); (· exact one_cb _))
    refine wk ?_
    ((apply CQ.end2; (· rfl); (· exact .cells inferInstance rfl (CellsAt.all (by first | exact pickA | exact updA)) (WB_z.len)); (· exact .tmp rfl)); (· exact ⟨by simp [DS.read, h0], rfl⟩); (· exact selA))
theorem write_c (p : Nat) (D : DS) (n : Int) (b : Blk) (hb : WB b) {N : Nat} (h : D.wf N) (hN : N < 1000000) : Ctr Tryz.prog 115 [.pointer (some ⟨p, 0, none⟩), .int .i64 n, .agg (cb b).toArray] [disk p D] (fun _ => True) (fun v M => v = .int .i64 (D.write n b).1 ∧ M = [disk p (D.write n b).2]) := by
  have hlo := h.loose
  refine Ctr.intro Tryz.func115 rfl Tryz.ntmps115 rfl fun x w hp => ?_
  refine wk ?_
  (refine CX.boxA ?_; intro c)
  refine wk ?_
  refine CX.callA (lit_c p D n) ?_
  rintro _ _ ⟨rfl, rfl⟩
  by_cases h0 : D.lit n = 0
  · have h1 : D.there n = 0 := by unfold DS.lit at h0; split at h0; cases h0; exact h0
    obtain ⟨k, rfl, hk⟩ := there_ok h1
    refine wk ?_
    refine CX.callA (step_c p D h hN) ?_
    rintro _ _ ⟨rfl, rfl⟩
    by_cases h2 : D.step.1 = 0
    · have e : D.write k b = (0, { D.step.2 with loose := D.step.2.loose ++ [(k, b)] }) := by simp [DS.write, h0, h2]
      have hlo' : D.step.2.loose.length ≤ N := by unfold DS.step; split <;> exact hlo
      refine wk ?_
      rw [e, h2]
      generalize D.step.2 = D' at hlo' ⊢
      (refine CC.openL (disk_eq p _) (by first | exact pickA | exact updA) ?_; rintro ⟨sb, sc, la, lc⟩ -)
      refine CC.draw [(0, 0), (1, 0), (2, 0), (3, 0), (4, 1), (5, 0), (6, 1), (7, 0), (8, 2), (9, 2), (10, 0), (11, 0), (12, 3)] mixed rfl (by kernel_rfl) (by kernel_rfl) [bk p 76 [.slice (some ⟨sb, 0, none⟩) D'.sure.length sc, .slice la D'.loose.length lc, .int .i64 D'.left, .int .i64 (D'.steps : Int), .bool D'.dark], bk c 59 (cb b)] ?_
      refine hwk ?_
      (apply CH.read; (· rfl); (· apply PS.loadG (vs := cb b); (· rfl); (· rfl); (· exact CellsAt.all (by first | exact pickA | exact updA)); (· exact hb.len)); (· exact selA))
      (apply CH.pure; (· rfl); (· apply PS.build (vs := [(0, .int .i64 (k : Int)), (1, .agg (cb b).toArray)]); (· rfl); (· rfl); (· exact fill_put k b hb)))
      refine CH.chain rfl fun K hK => ?_
      apply CX.buildSl (vs := [(0, .agg (pc (k, b)).toArray)])
      · rfl
      · rfl
      · decide
      · exact fill_one (length_pc hb) (by simp)
      intro q
      (refine CX.nil ?_; refine CQ.thenK ?_; apply hK; (· exact selA); clear hK K)
      refine CH.chain rfl fun K hK => ?_
      apply CX.append (m := 1) (news := pc (k, b))
      · rfl
      · rfl
      · rfl
      · first | exact pickA | exact updA
      · exact RdS.pick (by first | exact pickA | exact updA) (length_pc hb) (one_pc _) (by rw [List.drop_zero, List.take_of_length_le (by rw [length_pc hb]; omega)])
      · omega
      · intro hh; cases hh
      intro la' lc'
      (refine CX.nil ?_; refine CQ.thenK ?_; apply hK; (· exact selA); clear hK K)
      refine hwk ?_
      refine CH.tail rfl rfl fun K hK => ?_
      refine CX.storeA ?_
      (refine CX.nil ?_; refine CQ.thenK ?_; apply hK; clear hK K)
      refine hwk ?_
      refine wk ?_
      have e5 : D'.loose.length + 1 = (D'.loose ++ [(k, b)]).length := by simp
      have e6 : flatL D'.loose ++ pc (k, b) = flatL (D'.loose ++ [(k, b)]) := by simp [flatL, rows]
      rw [e5, e6]
      (refine CQ.shutL (disk_eq p ({ D' with loose := D'.loose ++ [(k, b)] })) (sb, sc, la', lc') trivial (by exact selA) ?_)
      ((apply CQ.end1; (· rfl); (· exact .tmp rfl)); (· exact ⟨rfl, rfl⟩); (· exact selA))
    · have e : D.write k b = D.step := by simp [DS.write, h0, h2]
      refine wk ?_
      rw [e]
      ((apply CQ.end1; (· rfl); (· exact .tmp rfl)); (· exact ⟨rfl, rfl⟩); (· exact selA))
  · have e : D.write n b = (D.lit n, D) := by simp [DS.write, h0]
    refine wk ?_
    rw [e]
    ((apply CQ.end1; (· rfl); (· exact .tmp rfl)); (· exact ⟨rfl, rfl⟩); (· exact selA))
theorem settle_c (p : Nat) (D : DS) (picks : List Int) (a : Option Addr) (c : Nat) (others : Int) (ho : 0 ≤ others ∧ others ≤ 128) {N : Nat} (h : D.wf N) (hN : N < 1000000) : Ctr Tryz.prog 50 [.pointer (some ⟨p, 0, none⟩), .slice a picks.length c, .int .i64 others] [disk p D] (rdx a picks.length (picks.map (Value.int .i64))) (fun v M => v = .tuple #[] ∧ M = [disk p (D.settle picks others.toNat)]) := by
  have hlo := h.loose
  have hlb : ∀ p ∈ D.loose, WB p.2 := fun p hp => (h.lb p hp).2
  refine Ctr.intro Tryz.func50 rfl Tryz.ntmps50 rfl fun x w hp => ?_
  (refine CC.openL (disk_eq p _) (by first | exact pickA | exact updA) ?_; rintro ⟨sb, sc, la, lc⟩ -)
  refine wk ?_
  refine CC.loop (X := Nat) (fun i => [(14, .int .i64 (i : Int)), (13, .int .i64 (D.loose.length : Int)), (12, .slice la D.loose.length lc), (0, .pointer (some ⟨p, 0, none⟩)), (1, .slice a picks.length c), (2, .int .i64 others)])
    (fun i => [bk p 76 [.slice (some ⟨sb, 0, none⟩) D.sure.length sc, .slice la D.loose.length lc, .int .i64 D.left, .int .i64 (D.steps : Int), .bool D.dark],
      own 59 128 (some ⟨sb, 0, none⟩) D.sure.length sc (flat (settleL D.sure picks others.toNat 0 (D.loose.take i))), own 142 129 la D.loose.length lc (flatL D.loose), exact x])
    (fun i => i ≤ D.loose.length) (fun i => D.loose.length - i) 0 (Nat.zero_le _) ⟨rfl, rfl, rfl, rfl, rfl, rfl, trivial⟩ (by exact selA) ?_
  intro i hi
  by_cases hlt : i < D.loose.length
  · have hw := hlb D.loose[i] (by simp)
    have hin := (h.lb D.loose[i] (by simp)).1
    have hSl : ∀ l, (settleL D.sure picks others.toNat 0 l).length = D.sure.length := fun l => length_settleL _ _ _ _ _
    have hSw := settleL_WB picks others.toNat (D.loose.take i) D.sure 0 h.wb (fun q hq => h.lb q (List.mem_of_mem_take hq))
    have hsnoc : settleL D.sure picks others.toNat 0 (D.loose.take (i + 1)) = (settleL D.sure picks others.toNat 0 (D.loose.take i)).set D.loose[i].1 (torn ((settleL D.sure picks others.toNat 0 (D.loose.take i)).getD D.loose[i].1 []) D.loose[i].2 (pickAt picks others.toNat i)) := by
      rw [List.take_succ_eq_append_getElem hlt, settleL_snoc, List.length_take, Nat.zero_add, Nat.min_eq_left hi]
    refine wk ?_
    (refine CX.indexOA (i) ?_ ?_; (· exact hlt); rintro g rfl)
    (apply CX.ps; (· apply PS.loadG (vs := pc D.loose[i]); (· rfl); (· rfl); (· exact CellsAt.own (by first | exact pickA | exact updA) (by rw [length_pc hw]; exact flatL_p _ hlb i hlt)); (· exact length_pc hw)))
    (apply CX.allocAs (pc (0, zblk)) (by simp [pc, cb_z, Value.cells]); (· rfl); intro r)
    refine wk ?_
    (apply CX.storeAll; (· rfl); (· rfl); (· rfl); (· first | exact pickA | exact updA); (· exact length_pc hw); (· exact length_pc WB_z); (· exact one_pc _))
    refine wk ?_
    refine CC.join (X := Unit) (fun _ => [(8, .int .i64 (pickAt picks others.toNat i : Int)), (7, .pointer (some ⟨r, 0, none⟩)), (14, .int .i64 (i : Int)), (13, .int .i64 (D.loose.length : Int)), (12, .slice (some ⟨g, 0, none⟩) D.loose.length lc), (0, .pointer (some ⟨p, 0, none⟩)), (1, .slice a picks.length c), (2, .int .i64 others)])
      (fun _ => [bk r 142 (pc D.loose[i]), bk p 76 [.slice (some ⟨sb, 0, none⟩) D.sure.length sc, .slice (some ⟨g, 0, none⟩) D.loose.length lc, .int .i64 D.left, .int .i64 (D.steps : Int), .bool D.dark],
      own 59 128 (some ⟨sb, 0, none⟩) D.sure.length sc (flat (settleL D.sure picks others.toNat 0 (D.loose.take i))), own 142 129 (some ⟨g, 0, none⟩) D.loose.length lc (flatL D.loose), exact x]) (fun _ => True) ?_ ?_
    · by_cases hpk : i < picks.length
      · rcases hp with h0 | ⟨pg, off, cs, pt, fr, rfl, hx, hcs⟩
        · omega
        have hz : picks[i]? = some picks[i] := by simp [hpk]
        refine wk ?_
        (refine CX.indexA (i) ?_ ?_; (· exact hpk))
        (apply CX.ps; (· apply PS.load (v := .int .i64 picks[i]); (· rfl); (· rfl); (· exact CellAt.exact (by first | exact pickA | exact updA) ⟨cs, pt, fr, hx, by rw [Nat.mul_one]; exact hcs i _ (by simp [hpk])⟩)))
        refine wk ?_
        refine CQ.joined () trivial ⟨eqI (by simp only [pickAt, hz]; omega), rfl, rfl, rfl, rfl, rfl, rfl, rfl, trivial⟩ (by exact selA)
      · have hz : picks[i]? = none := by simp; omega
        refine wk ?_
        refine CQ.joined () trivial ⟨eqI (by simp only [pickAt, hz]; omega), rfl, rfl, rfl, rfl, rfl, rfl, rfl, trivial⟩ (by exact selA)
    · rintro _ -
      generalize hm : pickAt picks others.toNat i = m
      have hm' : m ≤ 128 := by subst hm; simp only [pickAt]; split <;> omega
      generalize hSS : settleL D.sure picks others.toNat 0 (D.loose.take i) = SS at *
      have hSl' : SS.length = D.sure.length := by rw [← hSS]; exact hSl _
      refine CC.draw [(0, 0), (1, 0), (2, 0), (3, 1), (4, 0), (5, 1), (6, 0), (7, 0), (8, 0), (9, 0), (10, 0), (11, 0), (12, 2)] mixed rfl (by kernel_rfl) (by kernel_rfl) [bk r 142 (pc D.loose[i]), bk p 76 [.slice (some ⟨sb, 0, none⟩) D.sure.length sc, .slice (some ⟨g, 0, none⟩) D.loose.length lc, .int .i64 D.left, .int .i64 (D.steps : Int), .bool D.dark]] ?_
      refine hwk ?_
      (apply CH.pure; (· rfl); (· apply PS.indexAddr (j := D.loose[i].1); (· rfl); (· rfl); (· rfl); (· rfl); (· exact hin)))
      refine hwk ?_
      (apply CH.pure; (· rfl); (· apply PS.sliceArrHi (h := m); (· rfl); (· rfl); (· rfl); (· rfl); (· exact hm')))
      refine hwk ?_
      (apply CH.pure; (· rfl); (· apply PS.sliceArrHi (h := m); (· rfl); (· rfl); (· rfl); (· rfl); (· exact hm')))
      refine CH.chain rfl fun K hK => ?_
      apply CX.copyOwn (m := m) (news := cb (D.loose[i].2.take m))
      · rfl
      · rfl
      · rfl
      · exact RdS.pick (by first | exact pickA | exact updA) (by rw [length_cb, List.length_take, hw]; omega) (one_cb _) (by simp only [pc, List.drop_succ_cons, List.drop_zero, cb_take])
      · first | exact pickA | exact updA
      · simp
      · omega
      (refine CX.nil ?_; refine CQ.thenK ?_; apply hK; (· exact selA); clear hK K)
      refine hwk ?_
      have e1 : setL (flat SS) (0 + D.loose[i].1 * 128) (List.take m (cb (List.take m D.loose[i].2))) = flat (settleL D.sure picks others.toNat 0 (D.loose.take (i + 1))) := by
        rw [Nat.zero_add, List.take_of_length_le (by simp; omega), flat_set hSw (by omega) _ m hm' hw, hsnoc, hm]
      rw [e1]
      clear e1 hsnoc hSS hSw hm
      refine wk ?_
      exact CQ.round (i + 1) hlt (by omega) ⟨eqI (by omega), rfl, rfl, rfl, rfl, rfl, trivial⟩ (by exact selA)
  · obtain rfl : i = D.loose.length := by omega
    refine wk ?_
    refine CQ.ownNil 142 129 ?_
    have e : D.sure.length = (D.settle picks others.toNat).sure.length := by simp [DS.settle, length_settleL]
    rw [e, List.take_length]
    (refine CQ.shutL (disk_eq p (D.settle picks others.toNat)) (_, _, _, _) trivial (by exact selA) ?_)
    apply CQ.end0
    · rfl
    · exact ⟨rfl, rfl⟩
    · exact selA
theorem flush_c (p : Nat) (D : DS) {N : Nat} (h : D.wf N) (hN : N < 999999) : Ctr Tryz.prog 116 [.pointer (some ⟨p, 0, none⟩)] [disk p D] (fun _ => True) (fun v M => v = .int .i64 D.flush.1 ∧ M = [disk p D.flush.2]) := by
  refine Ctr.intro Tryz.func116 rfl Tryz.ntmps116 rfl fun x w hp => ?_
  refine wk ?_
  refine CX.callA (lit_c p D 0) ?_
  rintro _ _ ⟨rfl, rfl⟩
  by_cases h0 : D.lit 0 = 0
  · refine wk ?_
    refine CX.callA (step_c p D h (by omega)) ?_
    rintro _ _ ⟨rfl, rfl⟩
    by_cases h2 : D.step.1 = 0
    · have e : D.flush = (0, D.step.2.settle [] 128) := by simp [DS.flush, h0, h2]
      refine wk ?_
      (apply CX.call (S := settle_c p D.step.2 [] none 0 128 (by omega) (N := N + 1) (step_wf h) (by omega)) (hpre := fun _ _ => .inl rfl); (· rfl); (· rfl); (· exact selA))
      rintro _ _ ⟨rfl, rfl⟩
      refine wk ?_
      rw [e]
      ((apply CQ.end1; (· rfl); (· exact .tmp rfl)); (· exact ⟨by rw [h2], rfl⟩); (· exact selA))
    · have e : D.flush = D.step := by simp [DS.flush, h0, h2]
      refine wk ?_
      rw [e]
      ((apply CQ.end1; (· rfl); (· exact .tmp rfl)); (· exact ⟨rfl, rfl⟩); (· exact selA))
  · have e : D.flush = (D.lit 0, D) := by simp [DS.flush, h0]
    refine wk ?_
    rw [e]
    ((apply CQ.end1; (· rfl); (· exact .tmp rfl)); (· exact ⟨rfl, rfl⟩); (· exact selA))
theorem new_c (n : Int) : Ctr Tryz.prog 8 [.int .i64 n] [] (fun _ => True) (fun v M => (64 ≤ n ∧ n ≤ 4096 ∧ ∃ p, v = .tuple #[.pointer (some ⟨p, 0, none⟩), .int .i64 0] ∧ M = [disk p (DS.new n.toNat)]) ∨ (¬(64 ≤ n ∧ n ≤ 4096) ∧ v = .tuple #[.pointer none, .int .i64 2] ∧ M = [])) := by
  refine Ctr.intro Tryz.func8 rfl Tryz.ntmps8 rfl fun x w hp => ?_
  by_cases h1 : n < 64
  · refine wk ?_
    (apply CQ.end2; (· rfl); (· exact .tmp rfl); (· exact .tmp rfl))
    · exact .inr ⟨by omega, rfl, rfl⟩
    · exact selA
  by_cases h2 : 4096 < n
  · refine wk ?_
    (apply CQ.end2; (· rfl); (· exact .tmp rfl); (· exact .tmp rfl))
    · exact .inr ⟨by omega, rfl, rfl⟩
    · exact selA
  obtain ⟨k, rfl⟩ : ∃ k : Nat, n = k := ⟨n.toNat, by omega⟩
  refine wk ?_
  (apply CX.makeSl (l := k); (· rfl); (· rfl); (· rfl); (· rfl); (· omega); intro sb)
  (apply CX.ps; (· apply PS.build (vs := [(0, .slice (some ⟨sb, 0, none⟩) k k)]); (· rfl); (· rfl); (· rfl)))
  (refine CX.boxA ?_; intro p)
  refine wk ?_
  refine CQ.ownNil 142 129 ?_
  have e : (madeCells (List.replicate 128 (Value.int .u8 0)).toArray (k * 128)).toList = flat (List.replicate k zblk) := by rw [made_rep _ _ _ (by omega), flat_zs]
  have e2 : k = (DS.new k).sure.length := by simp [DS.new]
  have e3 : (fun l => flat (List.replicate l zblk)) k = flat (DS.new k).sure := rfl
  apply CQ.mem (L' := DL p (DS.new k) sb k none 0 ++ [exact x])
  · intro h hs
    have hs' : Sep ([own 142 129 none 0 0 [], bk p 76 [.slice (some ⟨sb, 0, none⟩) k k, .slice none 0 0, .int .i64 0, .int .i64 0, .bool false], own 59 128 (some ⟨sb, 0, none⟩) k k (madeCells (List.replicate 128 (Value.int .u8 0)).toArray (k * 128)).toList, exact x]) h := hs
    rw [e] at hs'
    have : Sel [own 142 129 none 0 0 [], bk p 76 [.slice (some ⟨sb, 0, none⟩) k k, .slice none 0 0, .int .i64 0, .int .i64 0, .bool false], own 59 128 (some ⟨sb, 0, none⟩) k k (flat (List.replicate k zblk)), exact x] (DL p (DS.new k) sb k none 0 ++ [exact x]) [] := by
      simp only [DL, DS.new, List.length_replicate]
      exact selA
    exact (this.sep hs').left
  (refine CQ.shutL (disk_eq p (DS.new k)) (_, _, _, _) trivial (by exact selA) ?_)
  (apply CQ.end2; (· rfl); (· exact .tmp rfl); (· exact .tmp rfl))
  · exact .inl ⟨by omega, by omega, p, rfl, rfl⟩
  · exact selA
theorem crash_c (p : Nat) (D : DS) (picks : List Int) (a : Option Addr) (c : Nat) {N : Nat} (h : D.wf N) (hN : N < 1000000) : Ctr Tryz.prog 14 [.pointer (some ⟨p, 0, none⟩), .slice a picks.length c] [disk p D] (rdx a picks.length (picks.map (Value.int .i64))) (fun v M => v = .int .i64 0 ∧ M = [disk p (D.crash picks)]) := by
  refine Ctr.intro Tryz.func14 rfl Tryz.ntmps14 rfl fun x w hp => ?_
  refine wk ?_
  refine CX.callA (none_c p D) ?_
  rintro _ _ ⟨rfl, rfl⟩
  refine wk ?_
  refine CX.callA (settle_c p D picks a c 0 (by omega) h hN) ?_ (hpre := by exact fun y hy => rdx_mono hp (Pick.ok (show Pick (exact x) _ _ from by first | exact pickA | exact updA) hy))
  rintro _ _ ⟨rfl, rfl⟩
  refine wk ?_
  (refine CX.openL (disk_eq p _) (by first | exact pickA | exact updA) ?_; rintro ⟨sb, sc, la, lc⟩ -)
  refine wk ?_
  (refine CQ.shutL (disk_eq p (D.crash picks)) (_, _, _, _) trivial (by exact selA) ?_)
  ((apply CQ.end1; (· rfl); (· exact .tmp rfl)); (· exact ⟨rfl, rfl⟩); (· exact selA))
end Go.Proofs.YtlckhaodecdbbaaGreatDoor
/-! The disk's Rot and Copy. -/
namespace Go.Proofs.YtlckhaodecdbbaaGreatDoor
open Go.Cx
attribute [local irreducible] Go.Cx.CX Go.Cx.CC Go.Cx.CQ Go.Cx.PS Go.Cx.Ctr Go.Cx.CH
set_option maxRecDepth 10000

theorem cb_set (b : Blk) (q : Nat) (c : UInt8) (hq : q < b.length) : cb (b.set q c) = setL (cb b) q [.int .u8 (c.toNat : Int)] := by
  rw [setL_one _ _ _ (by rw [length_cb]; exact hq)]
  simp [cb, ib, List.map_set]
end Go.Proofs.YtlckhaodecdbbaaGreatDoor
/-! What the statements of layer 4 do, step by step. -/
namespace Go.Proofs.YtlckhaodecdbbaaGreatDoor
open Go.Cx
attribute [local irreducible] Go.Cx.CX Go.Cx.CC Go.Cx.CQ Go.Cx.PS Go.Cx.Ctr Go.Cx.CH
set_option maxRecDepth 10000

def B1 : Blk := [17, 17, 17, 17] ++ List.replicate 124 0
def B2 : Blk := [17, 17, 17] ++ List.replicate 125 0
abbrev z64 : List Blk := List.replicate 64 zblk
def E1 : DS := ⟨z64, [], 2, 0, false⟩
def E2 : DS := ⟨z64, [(0, B1)], 1, 1, false⟩
def E3 : DS := ⟨z64, [(0, B1)], 1, 1, true⟩
def E4 : DS := ⟨B2 :: List.replicate 63 zblk, [], 0, 1, false⟩
theorem new_wf {k : Nat} (h1 : 64 ≤ k) (h2 : k ≤ 4096) : (DS.new k).wf 0 :=
  ⟨by simpa [DS.new] using h1, by simpa [DS.new] using h2, by simp [DS.new]; intro _; exact WB_z, by simp [DS.new], by simp [DS.new], by simp [DS.new], by simp [DS.new], by simp [DS.new]⟩
theorem e1 : (DS.new 64).arm 2 = (0, E1) := by kernel_rfl
theorem e2 : E1.write 0 B1 = (0, E2) := by kernel_rfl
theorem e3 : E2.flush = (9, E3) := by kernel_rfl
theorem e4 : E3.read 0 = (zblk, 9) := by kernel_rfl
theorem e5 : E3.crash [3] = E4 := by kernel_rfl
theorem e6 : E4.read 0 = (B2, 0) := by kernel_rfl
/-- A disk that was armed, i steps later. -/
structure J (K i : Nat) (D : DS) : Prop where
  wf : D.wf i
  len : D.sure.length = 64
  lit : i < K ∨ K = 0 → D.dark = false ∧ D.steps = i ∧ D.left = ((K - i : Nat) : Int)
  drk : 0 < K → K ≤ i → D.dark = true ∧ D.steps = K - 1
end Go.Proofs.YtlckhaodecdbbaaGreatDoor
/-! What the statements of layer 4 do, step by step: writes, then more. -/
namespace Go.Proofs.YtlckhaodecdbbaaGreatDoor
open Go.Cx
attribute [local irreducible] Go.Cx.CX Go.Cx.CC Go.Cx.CQ Go.Cx.PS Go.Cx.Ctr Go.Cx.CH
set_option maxRecDepth 10000

/-- A disk that is not armed. -/
structure Lv (i : Nat) (D : DS) : Prop where
  wf : D.wf i
  len : D.sure.length = 64
  dark : D.dark = false
  left : D.left = 0
theorem Lv.lit {i : Nat} {D : DS} (h : Lv i D) (n : Nat) (hn : n < 64) : D.lit (n : Int) = 0 := by
  have := h.len
  simp [DS.lit, h.dark, DS.there, errOf, this]; omega
theorem Lv.there {i : Nat} {D : DS} (h : Lv i D) (n : Nat) (hn : n < 64) : D.there (n : Int) = 0 := by
  have := h.len
  simp [DS.there, errOf, this]; omega
theorem Lv.step {i : Nat} {D : DS} (h : Lv i D) : D.step = (0, { D with steps := D.steps + 1 }) := by
  obtain ⟨S, l, left, steps, dark⟩ := D
  have h1 := h.left
  simp only at h1; subst h1
  simp [DS.step]; omega
theorem Lv.write {i : Nat} {D : DS} (h : Lv i D) (n : Nat) (hn : n < 64) {b : Blk} (hb : WB b) : D.write n b = (0, { D with steps := D.steps + 1, loose := D.loose ++ [(n, b)] }) ∧ Lv (i + 1) { D with steps := D.steps + 1, loose := D.loose ++ [(n, b)] } := by
  refine ⟨by simp [DS.write, h.lit n hn, h.step], ⟨⟨h.wf.lo, h.wf.hi, h.wf.wb, fun p hp => ?_, h.wf.left0, h.wf.left1, by have := h.wf.steps; simp; omega, by have := h.wf.loose; simp; omega⟩, h.len, h.dark, h.left⟩⟩
  simp only [List.mem_append, List.mem_singleton] at hp
  rcases hp with hp | rfl
  · exact h.wf.lb p hp
  · exact ⟨by rw [h.len]; exact hn, hb⟩
theorem Lv.flush {i : Nat} {D : DS} (h : Lv i D) : ∃ D', D.flush = (0, D') ∧ Lv (i + 1) D' ∧ D'.loose = [] := by
  have h0 : D.lit 0 = 0 := h.lit 0 (by omega)
  refine ⟨({ D with steps := D.steps + 1 } : DS).settle [] 128, by simp [DS.flush, h0, h.step], ?_, rfl⟩
  have hw : ({ D with steps := D.steps + 1 } : DS).wf (i + 1) := ⟨h.wf.lo, h.wf.hi, h.wf.wb, h.wf.lb, h.wf.left0, h.wf.left1, by have := h.wf.steps; simp; omega, by have := h.wf.loose; simp; omega⟩
  exact ⟨settle_wf hw _ _, by simp [DS.settle, length_settleL, h.len], h.dark, h.left⟩
theorem Lv.crash {i : Nat} {D : DS} (h : Lv i D) (picks : List Int) : Lv i (D.crash picks) ∧ (D.crash picks).loose = [] := by
  have hw := settle_wf h.wf picks 0
  exact ⟨⟨⟨hw.lo, hw.hi, hw.wb, hw.lb, by simp [DS.crash], by simp [DS.crash], hw.steps, hw.loose⟩, by simp [DS.crash, DS.settle, length_settleL, h.len], rfl, rfl⟩, rfl⟩
theorem settleL_ne (picks : List Int) (o k : Nat) (l : List (Nat × Blk)) : ∀ (S : List Blk) (i : Nat), (∀ p ∈ l, p.1 ≠ k) → (settleL S picks o i l).getD k [] = S.getD k [] := by
  induction l with
  | nil => intro S i _; rfl
  | cons q l ih =>
    intro S i h
    simp only [settleL]
    rw [ih _ _ fun p hp => h p (by simp [hp])]
    simp [List.getElem?_set_ne (h q (by simp))]
theorem Lv.read {i : Nat} {D : DS} (h : Lv i D) (k : Nat) (hk : k < 64) (hl : D.loose = []) : D.read k = (D.sure.getD k [], 0) ∧ D.sureAt k = (D.sure.getD k [], 0) ∧ WB (D.sure.getD k []) := by
  refine ⟨?_, ?_, getD_WB h.wf.wb (by rw [h.len]; exact hk)⟩
  · simp [DS.read, h.lit k hk, DS.get, hl]
  · simp [DS.sureAt, h.there k hk]

end Go.Proofs.YtlckhaodecdbbaaGreatDoor
/-! What the statement DiskAll does, step by step. -/
namespace Go.Proofs.YtlckhaodecdbbaaGreatDoor
open Go.Cx
attribute [local irreducible] Go.Cx.CX Go.Cx.CC Go.Cx.CQ Go.Cx.PS Go.Cx.Ctr Go.Cx.CH
set_option maxRecDepth 10000

def valOf (S : List Blk) (l : List (Nat × Blk)) (k : Nat) : Blk := match lastOf l k with | some p => p.2 | none => S.getD k []
end Go.Proofs.YtlckhaodecdbbaaGreatDoor
