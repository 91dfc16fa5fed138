/- Part K7: Rf, Lv5, L5t, Sf, Sb, Sr, Sc, So, L9, L9n, L9f, Rw8, L9g, L9s, Sq, Sw, Sx. -/
import Derived.Test.YtlckhaodecdbbaaGreatDoorK5
import Derived.Test.YtlckhaodecdbbaaGreatDoorK4
import Derived.Test.YtlckhaodecdbbaaGreatDoorK2
import Derived.Test.YtlckhaodecdbbaaGreatDoorK3
import Derived.Test.YtlckhaodecdbbaaGreatDoorK6
import Derived.ArgAppend
set_option linter.unusedVariables false
set_option linter.unusedSimpArgs false
/-! Sealed blocks, the document's way (ref 05), and what the statements share (ref 00). -/
namespace Go.Cx
theorem ins_step {B c : Blk} {f j : Nat} (hj : j < c.length) (h : f + c.length ≤ B.length) : (ins B f (c.take j)).set (f + j) c[j] = ins B f (c.take (j + 1)) := by
  have h1 : (c.take j).length = j := by simp; omega
  have h2 : (c.take (j + 1)).length = j + 1 := by simp; omega
  have h0 : (B.take f).length = f := by simp; omega
  unfold ins
  rw [List.set_append_right _ _ (by omega), h0, show f + j - f = j by omega, List.set_append_right _ _ (by omega), h1, Nat.sub_self, h2, List.drop_eq_getElem_cons (by omega), List.set_cons_zero, List.take_succ_eq_append_getElem hj, List.append_assoc]
  congr 3
theorem ins_zero {B : Blk} {f : Nat} : ins B f [] = B := by simp [ins]
theorem set_ins {B c : Blk} {f j : Nat} (hj : j < f) (h : f + c.length ≤ B.length) (y : UInt8) : (ins B f c).set j y = ins (B.set j y) f c := by
  unfold ins
  rw [List.set_append_left _ _ (by simp; omega), List.take_set, List.drop_set, if_pos (by omega)]
/-- The document's way to a sealed block. -/
def ends1 (n : Nat) : Blk := ins (ins zblk 0 (le 8 n)) 120 (le 8 (top - n))
def ends2 (n : Nat) (b : Blk) : Blk := ins (ends1 n) 8 b
theorem ends1_eq (n : Nat) : ends1 n = le 8 n ++ (List.replicate 108 0 ++ (List.replicate 4 0 ++ le 8 (top - n))) := by
  have h1 : ins zblk 0 (le 8 n) = seal1 n := rfl
  have h2 : seal1 n = (le 8 n ++ (List.replicate 108 0 ++ List.replicate 4 0)) ++ (List.replicate 8 0 ++ []) := by
    rw [seal1_eq, List.append_nil, List.append_assoc, List.append_assoc]; rfl
  have h3 := ins_mid (le 8 n ++ (List.replicate 108 0 ++ List.replicate 4 0)) (le 8 (top - n)) [] 8 120 (by simp) (by simp)
  rw [ends1, h1, h2, h3]; simp
theorem ends2_eq {n : Nat} {b : Blk} (h : b.length ≤ 108) : ends2 n b = frontB n b ++ (List.replicate 4 0 ++ le 8 (top - n)) := by
  rw [ends2, ends1_eq, ins_mid _ _ _ _ _ (by simp) h, frontB, padB]
  simp
theorem ends3_eq {n : Nat} {b : Blk} (h : b.length ≤ 108) : (ends2 n b).take 116 = frontB n b ∧ ins (ends2 n b) 116 (le 4 (crcM (frontB n b))) = sealB n b := by
  have e : (ends2 n b).take 116 = frontB n b := by
    rw [ends2_eq h, List.take_append_of_le_length (by rw [front_len h]; omega), List.take_of_length_le (by rw [front_len h]; omega)]
  refine ⟨e, ?_⟩
  have := ins_mid (frontB n b) (le 4 (crcM (frontB n b))) (le 8 (top - n)) 4 116 (front_len h) (by simp)
  rw [ends2_eq h, this, sealB]; simp
theorem ends_WB {n : Nat} {b : Blk} (h : b.length ≤ 108) : WB (ends1 n) ∧ WB (ends2 n b) := by
  refine ⟨?_, ?_⟩
  · rw [ends1_eq]; simp [WB]
  · rw [ends2_eq h]; simp [WB, front_len h]
theorem last_iff {B : Blk} (w : WB B) {m : Nat} (hm : m ≤ top) : le 8 m = B.drop 120 ↔ ofLe (B.drop 120) = m := by
  have w' : B.length = 128 := w
  constructor
  · intro h; rw [← h, ofLe8 hm]
  · intro h; rw [← h]; have := le_ofLe (B.drop 120); rwa [show (B.drop 120).length = 8 by simp; omega] at this
theorem getN_at {B : Blk} {p k : Nat} (hk : k = 1 ∨ k = 2 ∨ k = 4 ∨ k = 8) (h : p + k ≤ B.length) : getN B (p : Int) (k : Int) = (ofLe ((B.drop p).take k), 0) := by
  unfold getN
  rw [if_neg (by unfold okSize; omega), if_neg (by omega)]
  simp
theorem sum_zero {n m : Nat} (hn : n < 18446744073709551616) (hm : m < 18446744073709551616) : (n + m) % 2 ^ IntKind.u64.bits = 0 ∧ n = 0 ↔ n = 0 ∧ m = 0 := by
  simp only [IntKind.bits]; omega
end Go.Cx
namespace Go.Proofs.YtlckhaodecdbbaaGreatDoor
open Go.Cx
attribute [local irreducible] Go.Cx.CX Go.Cx.CC Go.Cx.CQ Go.Cx.PS Go.Cx.Ctr Go.Cx.CH
set_option maxRecDepth 10000
theorem ends_c (n : Nat) (hn : n ≤ top) : Ctr Tryz.prog 189 [.int .u64 (n : Int)] [] (fun _ => True)
    (fun v M => ∃ b c b' c', v = .tuple #[.slice (some ⟨b, 0, none⟩) 8 c, .slice (some ⟨b', 0, none⟩) 8 c'] ∧ M = [own 5 1 (some ⟨b', 0, none⟩) 8 c' (cb (le 8 (top - n))), own 5 1 (some ⟨b, 0, none⟩) 8 c (cb (le 8 n))]) := by
  have e : (18446744073709551615 : Int) - (n : Int) = ((top - n : Nat) : Int) := by simp only [top] at *; omega
  refine Ctr.intro Tryz.func189 rfl Tryz.ntmps189 rfl fun x w hp => ?_
  refine wk ?_
  refine CX.callA (rput_c n 8 (by omega) (by simp only [top] at hn; omega)) ?_
  rintro _ _ ⟨b, c, rfl, rfl⟩
  have h0 : (n : Int) ≤ 18446744073709551615 := by simp only [top] at hn; omega
  refine wk ?_
  rw [e]
  refine CX.callA (rput_c (top - n) 8 (by omega) (by simp only [top]; omega)) ?_
  rintro _ _ ⟨b', c', rfl, rfl⟩
  refine wk ?_
  (apply CQ.end2; (· rfl); (· exact .tmp rfl); (· exact .tmp rfl))
  · exact ⟨b, c, b', c', rfl, rfl⟩
  · exact selA
theorem r5put_c (n : Nat) (hn : n ≤ top) (body : Blk) (hb : body.length ≤ 9223372036854775807) (a : Option Addr) (cap : Nat) : Ctr Tryz.prog 175 [.int .u64 (n : Int), .slice a body.length cap] [] (fun x => rdx a body.length (cb body) x)
    (fun v M => v = .tuple #[.agg (cb (putM n body).1).toArray, .int .i64 (putM n body).2] ∧ M = []) := by
  refine Ctr.intro Tryz.func175 rfl Tryz.ntmps175 rfl fun x w hp => ?_
  refine wk ?_
  (refine CX.allocZ (cb zblk) ?_; intro r)
  refine wk ?_
  (refine CX.allocZ (cb zblk) ?_; intro s)
  refine wk ?_
  by_cases h1 : n = 0
  · have e : putM n body = (zblk, 2) := by unfold putM; rw [if_pos h1]
    rw [e]
    refine wk ?_
    ((apply CX.ps; (· apply PS.loadG (vs := cb (zblk)); (· rfl); (· rfl); (· exact CellsAt.all (by first | exact pickA | exact updA)); (· exact WB_z.len))))
    (apply CX.storeAll; (· rfl); (· rfl); (· rfl); (· first | exact pickA | exact updA); (· exact WB_z.len); (· exact WB_z.len); (· exact one_cb _))
    refine wk ?_
    ((apply CQ.end2; (· rfl); (· exact .cells inferInstance rfl (CellsAt.all (by first | exact pickA | exact updA)) (WB_z.len)); (· exact .tmp rfl)); (· exact ⟨rfl, rfl⟩); (· exact selA))
  by_cases h2 : 108 < body.length
  · have e : putM n body = (zblk, 3) := by unfold putM; rw [if_neg h1, if_pos h2]
    rw [e]
    refine wk ?_
    ((apply CX.ps; (· apply PS.loadG (vs := cb (zblk)); (· rfl); (· rfl); (· exact CellsAt.all (by first | exact pickA | exact updA)); (· exact WB_z.len))))
    (apply CX.storeAll; (· rfl); (· rfl); (· rfl); (· first | exact pickA | exact updA); (· exact WB_z.len); (· exact WB_z.len); (· exact one_cb _))
    refine wk ?_
    ((apply CQ.end2; (· rfl); (· exact .cells inferInstance rfl (CellsAt.all (by first | exact pickA | exact updA)) (WB_z.len)); (· exact .tmp rfl)); (· exact ⟨rfl, rfl⟩); (· exact selA))
  have hl : body.length ≤ 108 := by omega
  have e : putM n body = (sealB n body, 0) := by unfold putM; rw [if_neg h1, if_neg h2]
  rw [e]
  obtain ⟨w1, w2⟩ := ends_WB (n := n) hl
  obtain ⟨e3, e4⟩ := ends3_eq (n := n) hl
  have w4 := sealB_WB (n := n) hl
  refine wk ?_
  refine CX.callA (ends_c n hn) ?_
  rintro _ _ ⟨f, fc, g, gc, rfl, rfl⟩
  refine wk ?_
  refine CC.loop (X := Nat) (fun i => [(9, .int .i64 (i : Int)), (4, .pointer (some ⟨r, 0, none⟩)), (6, .pointer (some ⟨s, 0, none⟩)), (7, .slice (some ⟨f, 0, none⟩) 8 fc), (8, .slice (some ⟨g, 0, none⟩) 8 gc), (1, .slice a body.length cap)])
    (fun i => [own 5 1 (some ⟨f, 0, none⟩) 8 fc (cb (le 8 n)), own 5 1 (some ⟨g, 0, none⟩) 8 gc (cb (le 8 (top - n))), bk r 59 (cb zblk), bk s 59 (cb (ins (ins zblk 0 ((le 8 n).take i)) 120 ((le 8 (top - n)).take i))), exact x])
    (fun i => i ≤ 8) (fun i => 8 - i) 0 (Nat.zero_le _) ⟨rfl, rfl, rfl, rfl, rfl, rfl, trivial⟩ (by simp only [List.take_zero, ins_zero]; exact selA) ?_
  intro i hi
  by_cases h3 : i < 8
  · have k1 : i < (le 8 n).length := by simpa using h3
    have k2 : i < (le 8 (top - n)).length := by simpa using h3
    have l0 : (ins zblk 0 ((le 8 n).take i)).length = 128 := by rw [ins_len] <;> simp [zblk]; omega
    have l1 : (ins (ins zblk 0 ((le 8 n).take i)) 120 ((le 8 (top - n)).take i)).length = 128 := by rw [ins_len, l0]; rw [l0]; simp; omega
    have s1 : (ins (ins zblk 0 ((le 8 n).take i)) 120 ((le 8 (top - n)).take i)).set i ((le 8 n)[i]'k1) = ins (ins zblk 0 ((le 8 n).take (i + 1))) 120 ((le 8 (top - n)).take i) := by
      rw [set_ins (by omega) (by rw [l0]; simp; omega)]
      have := ins_step (B := zblk) (c := le 8 n) (f := 0) k1 (by simp [zblk])
      rw [Nat.zero_add] at this; rw [this]
    have l2 : (ins zblk 0 ((le 8 n).take (i + 1))).length = 128 := by rw [ins_len] <;> simp [zblk]; omega
    have s2 := ins_step (B := ins zblk 0 ((le 8 n).take (i + 1))) (c := le 8 (top - n)) (f := 120) k2 (by rw [l2]; simp)
    have l3 : (ins (ins zblk 0 ((le 8 n).take (i + 1))) 120 ((le 8 (top - n)).take i)).length = 128 := by rw [ins_len, l2]; rw [l2]; simp; omega
    refine wk ?_
    (refine CX.index0 (i) ?_ ?_; (· exact h3))
    (refine CX.loadA _ (CellAt.ownB (j := i) (by first | exact pickA | exact updA) k1) ?_)
    refine CX.ps (PS.indexArr (j := i) rfl rfl rfl rfl (by omega)) ?_
    (refine CX.storeBB (i) ((le 8 n)[i]'k1) ?_ ?_; (· omega))
    rw [s1]
    refine wk ?_
    (refine CX.index0 (i) ?_ ?_; (· exact h3))
    (refine CX.loadA _ (CellAt.ownB (j := i) (by first | exact pickA | exact updA) k2) ?_)
    refine CX.ps (PS.indexArr (j := 120 + i) rfl rfl rfl (by omega) (by omega)) ?_
    (refine CX.storeBB (120 + i) ((le 8 (top - n))[i]'k2) ?_ ?_; (· omega))
    rw [s2]
    refine wk ?_
    exact CQ.round (i + 1) (by omega) (by omega) ⟨eqI (by omega), rfl, rfl, rfl, rfl, rfl, trivial⟩ (by exact selA)
  obtain rfl : i = 8 := by omega
  rw [List.take_of_length_le (by simp), List.take_of_length_le (by simp), show ins (ins zblk 0 (le 8 n)) 120 (le 8 (top - n)) = ends1 n from rfl]
  refine wk ?_
  have w1' : (ends1 n).length = 128 := w1
  refine CC.loop (X := Nat) (fun i => [(10, .int .i64 (i : Int)), (4, .pointer (some ⟨r, 0, none⟩)), (6, .pointer (some ⟨s, 0, none⟩)), (1, .slice a body.length cap)])
    (fun i => [bk r 59 (cb zblk), bk s 59 (cb (ins (ends1 n) 8 (body.take i))), exact x])
    (fun i => i ≤ body.length) (fun i => body.length - i) 0 (Nat.zero_le _) ⟨rfl, rfl, rfl, rfl, trivial⟩ (by simp only [List.take_zero, ins_zero]; exact selA) ?_
  intro i hi
  by_cases h3 : i < body.length
  · obtain ⟨gg, off, rfl⟩ := rdx_some hp (by omega)
    have s1 := ins_step (B := ends1 n) (c := body) (f := 8) h3 (by omega)
    have l1 : (ins (ends1 n) 8 (body.take i)).length = 128 := by rw [ins_len, w1']; rw [w1']; simp; omega
    refine wk ?_
    (refine CX.indexA (i) ?_ ?_; (· exact h3))
    (refine CX.loadA _ (CellAt.rd (j := i) (by first | exact pickA | exact updA) hp rfl h3) ?_)
    refine CX.ps (PS.indexArr (j := 8 + i) rfl rfl rfl (by omega) (by omega)) ?_
    (refine CX.storeBB (8 + i) (body[i]) ?_ ?_; (· omega))
    rw [s1]
    refine wk ?_
    exact CQ.round (i + 1) (by omega) (by omega) ⟨eqI (by omega), rfl, rfl, rfl, trivial⟩ (by exact selA)
  obtain rfl : i = body.length := by omega
  rw [List.take_length, show ins (ends1 n) 8 body = ends2 n body from rfl]
  have w2' : (ends2 n body).length = 128 := w2
  have hl2 : ((ends2 n body).take 116).length = 116 := by simp; omega
  have hlt := crc_lt (frontB n body)
  refine wk ?_
  refine CX.ps (PS.sliceArrHi (h := 116) rfl rfl rfl rfl (by omega)) ?_
  have cc := rof_c ((ends2 n body).take 116) (by omega) (some ⟨s, 0, none⟩) 128 (by omega)
  rw [hl2] at cc
  refine CX.callA (cc) ?_ (hpre := by exact fun y hy => by have := rdx_bk (t := 59) (b := s) (B := ends2 n body) (by first | exact pickA | exact updA) 0 116 (by omega) y hy; rwa [List.drop_zero] at this)
  clear cc
  rintro _ _ ⟨rfl, rfl⟩
  rw [e3]
  refine wk ?_
  refine CX.callA (rput_c (crcM (frontB n body)) 4 (by omega) hlt) ?_
  rintro _ _ ⟨q, qc, rfl, rfl⟩
  refine wk ?_
  refine CC.loop (X := Nat) (fun i => [(13, .int .i64 (i : Int)), (4, .pointer (some ⟨r, 0, none⟩)), (6, .pointer (some ⟨s, 0, none⟩)), (11, .slice (some ⟨q, 0, none⟩) 4 qc)])
    (fun i => [own 5 1 (some ⟨q, 0, none⟩) 4 qc (cb (le 4 (crcM (frontB n body)))), bk r 59 (cb zblk), bk s 59 (cb (ins (ends2 n body) 116 ((le 4 (crcM (frontB n body))).take i))), exact x])
    (fun i => i ≤ 4) (fun i => 4 - i) 0 (Nat.zero_le _) ⟨rfl, rfl, rfl, rfl, trivial⟩ (by simp only [List.take_zero, ins_zero]; exact selA) ?_
  intro i hi
  by_cases h3 : i < 4
  · have k1 : i < (le 4 (crcM (frontB n body))).length := by simpa using h3
    have s1 := ins_step (B := ends2 n body) (c := le 4 (crcM (frontB n body))) (f := 116) k1 (by simp; omega)
    have l1 : (ins (ends2 n body) 116 ((le 4 (crcM (frontB n body))).take i)).length = 128 := by rw [ins_len, w2']; rw [w2']; simp; omega
    refine wk ?_
    (refine CX.index0 (i) ?_ ?_; (· exact h3))
    (refine CX.loadA _ (CellAt.ownB (j := i) (by first | exact pickA | exact updA) k1) ?_)
    refine CX.ps (PS.indexArr (j := 116 + i) rfl rfl rfl (by omega) (by omega)) ?_
    (refine CX.storeBB (116 + i) ((le 4 (crcM (frontB n body)))[i]) ?_ ?_; (· omega))
    rw [s1]
    refine wk ?_
    exact CQ.round (i + 1) (by omega) (by omega) ⟨eqI (by omega), rfl, rfl, rfl, trivial⟩ (by exact selA)
  obtain rfl : i = 4 := by omega
  rw [List.take_of_length_le (by simp), e4]
  refine wk ?_
  ((apply CX.ps; (· apply PS.loadG (vs := cb (sealB n body)); (· rfl); (· rfl); (· exact CellsAt.all (by first | exact pickA | exact updA)); (· exact w4.len))))
  (apply CX.storeAll; (· rfl); (· rfl); (· rfl); (· first | exact pickA | exact updA); (· exact w4.len); (· exact WB_z.len); (· exact one_cb _))
  refine wk ?_
  ((apply CQ.end2; (· rfl); (· exact .cells inferInstance rfl (CellsAt.all (by first | exact pickA | exact updA)) (w4.len)); (· exact .tmp rfl)); (· exact ⟨rfl, rfl⟩); (· exact selA))
theorem r5get_c (B : Blk) (hB : WB B) : Ctr Tryz.prog 188 [.agg (cb B).toArray] [] (fun _ => True) (GotM B) := by
  have hB' : B.length = 128 := hB
  have hl8 := valid_top hB
  have g1 := getN_at (B := B) (p := 0) (k := 8) (by omega) (by omega)
  have g2 := getN_at (B := B) (p := 116) (k := 4) (by omega) (by omega)
  rw [List.drop_zero] at g1
  have h4 := ofLe_lt ((B.drop 116).take 4)
  rw [show ((B.drop 116).take 4).length = 4 by simp; omega] at h4
  have hcr := crc_lt (B.take 116)
  have li := last_iff hB (m := top - ofLe (B.take 8)) (by omega)
  have cut0 : ∀ b : Nat, cutAt (some ⟨b, 0, none⟩) 0 128 1 = some ⟨b, 0, none⟩ := fun b => by unfold cutAt; simp [addr_add]
  have cut120 : ∀ b : Nat, cutAt (some ⟨b, 0, none⟩) 120 128 1 = some ⟨b, 120, none⟩ := fun b => by unfold cutAt; simp [addr_add]
  refine Ctr.intro Tryz.func188 rfl Tryz.ntmps188 rfl fun x w hp => ?_
  refine wk ?_
  (refine CX.boxA ?_; intro r)
  refine wk ?_
  refine CX.ps (PS.sliceArr (l := 0) (h := 128) rfl rfl rfl rfl (.inl ⟨rfl, rfl⟩) (.inl ⟨rfl, rfl⟩) (by omega) (by omega)) ?_
  rw [cut0]
  have cc := rget_c B (some ⟨r, 0, none⟩) 128 0 8 (by omega) (by omega) (by omega)
  rw [hB', show getN B 0 8 = _ from g1] at cc
  refine CX.callA (cc) ?_ (hpre := by exact full_rdx hB (by first | exact pickA | exact updA))
  clear cc
  rintro _ _ ⟨rfl, rfl⟩
  refine wk ?_
  refine CX.callA (ends_c (ofLe (B.take 8)) hl8) ?_
  rintro _ _ ⟨f, fc, g, gc, rfl, rfl⟩
  refine wk ?_
  by_cases h1 : ofLe (B.take 8) = 0
  · have e : getM B = (0, [], 5) := by unfold getM; rw [if_pos (.inl (by omega))]
    rw [h1]
    refine wk ?_
    refine CC.draw [(0, 0), (1, 0), (2, 0), (3, 0), (4, 1), (5, 0), (6, 1), (7, 0), (8, 0)] mixed rfl (by kernel_rfl) (by kernel_rfl) [bk r 59 (cb B)] ?_
    refine hwk ?_
    refine wk ?_
    refine CQ.ownNil 5 1 ?_
    (apply CQ.end3; (· rfl); (· exact .tmp rfl); (· exact .tmp rfl); (· exact .tmp rfl))
    · exact (show GotM B _ [own 5 1 none 0 0 (cb [])] from ⟨none, 0, by rw [e]; rfl, by rw [e]; rfl⟩)
    · exact selA
  refine CC.draw [(0, 0), (1, 0), (2, 0), (3, 0), (4, 1), (5, 0), (6, 1), (7, 0), (8, 0)] mixed rfl (by kernel_rfl) (by kernel_rfl) [bk r 59 (cb B), own 5 1 (some ⟨g, 0, none⟩) 8 gc (cb (le 8 (top - ofLe (B.take 8))))] ?_
  refine hwk ?_
  refine CH.read rfl (PS.toStr (b := le 8 (top - ofLe (B.take 8))) rfl rfl (by simp) (rdx_own (by first | exact pickA | exact updA) (by simp))) (by exact selA) ?_
  refine hwk ?_
  refine CH.pure rfl (PS.sliceArr (l := 120) (h := 128) rfl rfl rfl rfl (.inr ⟨_, rfl⟩) (.inl ⟨rfl, rfl⟩) (by omega) (by omega)) ?_
  rw [cut120]
  refine CH.read rfl (PS.toStr (b := B.drop 120) rfl rfl (by simp; omega) (fun y hy => by have := rdx_bk (t := 59) (b := r) (B := B) (by first | exact pickA | exact updA) 120 8 (by omega) y hy; rwa [List.take_of_length_le (by simp; omega)] at this)) (by exact selA) ?_
  refine CH.pure rfl (PS.neqStr rfl rfl rfl) ?_
  refine hwk ?_
  by_cases h2 : ofLe (B.drop 120) = top - ofLe (B.take 8)
  · have h2' : ¬ (le 8 (top - ofLe (B.take 8)) ≠ B.drop 120) := fun h => h (li.2 h2)
    refine wk ?_
    refine CX.ps (PS.sliceArr (l := 0) (h := 128) rfl rfl rfl rfl (.inl ⟨rfl, rfl⟩) (.inl ⟨rfl, rfl⟩) (by omega) (by omega)) ?_
    rw [cut0]
    have cc := rget_c B (some ⟨r, 0, none⟩) 128 116 4 (by omega) (by omega) (by omega)
    rw [hB', show getN B 116 4 = _ from g2] at cc
    refine CX.callA (cc) ?_ (hpre := by exact full_rdx hB (by first | exact pickA | exact updA))
    clear cc
    rintro _ _ ⟨rfl, rfl⟩
    refine wk ?_
    refine CX.ps (PS.sliceArrHi (h := 116) rfl rfl rfl rfl (by omega)) ?_
    have hl2 : (B.take 116).length = 116 := by simp; omega
    have cc := rof_c (B.take 116) (by omega) (some ⟨r, 0, none⟩) 128 (by omega)
    rw [hl2] at cc
    refine CX.callA (cc) ?_ (hpre := by exact fun y hy => by have := rdx_bk (t := 59) (b := r) (B := B) (by first | exact pickA | exact updA) 0 116 (by omega) y hy; rwa [List.drop_zero] at this)
    clear cc
    rintro _ _ ⟨rfl, rfl⟩
    by_cases h3 : ofLe ((B.drop 116).take 4) = crcM (B.take 116)
    · have e : getM B = (ofLe (B.take 8), (B.drop 8).take 108, 0) := by unfold getM; rw [if_neg (by omega), if_neg (by omega)]
      have hl : ((B.drop 8).take 108).length = 108 := by simp; omega
      refine wk ?_
      refine CC.ownNil 5 1 ?_
      refine CC.loop (X := Nat × Option Addr × Nat) (fun s => [(12, .int .i64 ((8 + s.1 : Nat) : Int)), (11, .slice s.2.1 s.1 s.2.2), (1, .pointer (some ⟨r, 0, none⟩)), (5, .int .u64 ((ofLe (B.take 8) : Nat) : Int))])
        (fun s => [own 5 1 s.2.1 s.1 s.2.2 (cb (((B.drop 8).take 108).take s.1)), bk r 59 (cb B), exact x]) (fun s => s.1 ≤ 108) (fun s => 108 - s.1) (0, none, 0) (Nat.zero_le _) ⟨rfl, rfl, rfl, rfl, trivial⟩ (by exact selA) ?_
      rintro ⟨i, a, c⟩ hi
      dsimp only at hi ⊢
      by_cases h5 : i < 108
      · have h6 : 8 + i < B.length := by omega
        have es : ((B.drop 8).take 108).take (i + 1) = ((B.drop 8).take 108).take i ++ [B[8 + i]] := by
          rw [List.take_succ_eq_append_getElem (by omega)]; simp
        refine wk ?_
        refine CX.ps (PS.indexArr (j := 8 + i) rfl rfl rfl rfl (by omega)) ?_
        (refine CX.loadA _ (CellAt.bkB (j := 8 + i) (by first | exact pickA | exact updA) h6) ?_)
        (refine CX.appB (B[8 + i]) ?_ ?_ ?_; (· omega); (· rfl); intro bq a' c')
        rw [← es]
        refine wk ?_
        exact CQ.round (x := (i, a, c)) (i + 1, a', c') (by dsimp only; omega) (by dsimp only; omega) ⟨eqI (by dsimp only; omega), rfl, rfl, rfl, trivial⟩ (by exact selA)
      · obtain rfl : i = 108 := by omega
        rw [show ((B.drop 8).take 108).take 108 = (B.drop 8).take 108 from List.take_of_length_le (by omega)]
        refine wk ?_
        (apply CQ.end3; (· rfl); (· exact .tmp rfl); (· exact .tmp rfl); (· exact .tmp rfl))
        · exact (show GotM B _ [own 5 1 a 108 c (cb ((B.drop 8).take 108))] from ⟨a, c, by rw [e]; dsimp only; rw [hl], by rw [e]; dsimp only; rw [hl]⟩)
        · exact selA
    · have e : getM B = (0, [], 6) := by unfold getM; rw [if_neg (by omega), if_pos h3]
      refine wk ?_
      refine CQ.ownNil 5 1 ?_
      (apply CQ.end3; (· rfl); (· exact .tmp rfl); (· exact .tmp rfl); (· exact .tmp rfl))
      · exact (show GotM B _ [own 5 1 none 0 0 (cb [])] from ⟨none, 0, by rw [e]; rfl, by rw [e]; rfl⟩)
      · exact selA
  · have e : getM B = (0, [], 5) := by unfold getM; rw [if_pos (.inr h2)]
    have h2' : le 8 (top - ofLe (B.take 8)) ≠ B.drop 120 := fun h => h2 (li.1 h)
    refine wk ?_
    refine CQ.ownNil 5 1 ?_
    (apply CQ.end3; (· rfl); (· exact .tmp rfl); (· exact .tmp rfl); (· exact .tmp rfl))
    · exact (show GotM B _ [own 5 1 none 0 0 (cb [])] from ⟨none, 0, by rw [e]; rfl, by rw [e]; rfl⟩)
    · exact selA
theorem r5worth_c (B : Blk) (hB : WB B) : Ctr Tryz.prog 176 [.agg (cb B).toArray] [] (fun _ => True) (fun v M => v = .int .u64 ((getM B).1 : Int) ∧ M = []) := by
  refine Ctr.intro Tryz.func176 rfl Tryz.ntmps176 rfl fun x w hp => ?_
  refine wk ?_
  (refine CX.boxA ?_; intro r)
  refine wk ?_
  ((apply CX.ps; (· apply PS.loadG (vs := cb (B)); (· rfl); (· rfl); (· exact CellsAt.all (by first | exact pickA | exact updA)); (· exact hB.len))))
  refine CX.callA (r5get_c B hB) ?_
  rintro _ _ ⟨a, c, rfl, rfl⟩
  refine wk ?_
  ((apply CQ.end1; (· rfl); (· exact .tmp rfl)); (· exact ⟨rfl, rfl⟩); (· exact selA))
theorem r5next_c (A B : Blk) (hA : WB A) (hB : WB B) : Ctr Tryz.prog 149 [.agg (cb A).toArray, .agg (cb B).toArray] [] (fun _ => True) (fun v M => v = .int .i64 (nextM A B) ∧ M = []) := by
  refine Ctr.intro Tryz.func149 rfl Tryz.ntmps149 rfl fun x w hp => ?_
  refine wk ?_
  (refine CX.boxA ?_; intro r)
  refine wk ?_
  (refine CX.boxA ?_; intro s)
  refine wk ?_
  refine CC.draw [(0, 1), (1, 2), (2, 0), (3, 0), (4, 1), (6, 1), (5, 2), (7, 2), (8, 0), (9, 0)] mixed rfl (by kernel_rfl) (by kernel_rfl) [bk r 59 (cb A), bk s 59 (cb B)] ?_
  (apply CH.read; (· rfl); (· apply PS.loadG (vs := cb A); (· rfl); (· rfl); (· exact CellsAt.all (by first | exact pickA | exact updA)); (· exact hA.len)); (· exact selA))
  refine CH.chain rfl fun K hK => ?_
  refine CX.callA (r5worth_c A hA) ?_
  rintro _ _ ⟨rfl, rfl⟩
  (refine CX.nil ?_; refine CQ.thenK ?_; apply hK; (· exact selA); clear hK K)
  by_cases h1 : (getM A).1 = 0
  · have e : nextM A B = 0 := by unfold nextM; split <;> first | rfl | (rw [if_pos (by omega)])
    refine hwk ?_
    refine wk ?_
    rw [e]
    ((apply CQ.end1; (· rfl); (· exact .tmp rfl)); (· exact ⟨rfl, rfl⟩); (· exact selA))
  · refine hwk ?_
    (apply CH.read; (· rfl); (· apply PS.loadG (vs := cb A); (· rfl); (· rfl); (· exact CellsAt.all (by first | exact pickA | exact updA)); (· exact hA.len)); (· exact selA))
    (apply CH.read; (· rfl); (· apply PS.loadG (vs := cb B); (· rfl); (· rfl); (· exact CellsAt.all (by first | exact pickA | exact updA)); (· exact hB.len)); (· exact selA))
    refine CH.chain rfl fun K hK => ?_
    refine CX.callA (r5worth_c A hA) ?_
    rintro _ _ ⟨rfl, rfl⟩
    (refine CX.nil ?_; refine CQ.thenK ?_; apply hK; (· exact selA); clear hK K)
    refine CH.chain rfl fun K hK => ?_
    refine CX.callA (r5worth_c B hB) ?_
    rintro _ _ ⟨rfl, rfl⟩
    (refine CX.nil ?_; refine CQ.thenK ?_; apply hK; (· exact selA); clear hK K)
    by_cases h2 : (getM A).1 < (getM B).1
    · have e : nextM A B = 0 := by unfold nextM; rw [if_neg (by omega), if_pos h2]
      refine hwk ?_
      refine wk ?_
      rw [e]
      ((apply CQ.end1; (· rfl); (· exact .tmp rfl)); (· exact ⟨rfl, rfl⟩); (· exact selA))
    · have e : nextM A B = 1 := by unfold nextM; rw [if_neg (by omega), if_neg h2]
      refine hwk ?_
      refine wk ?_
      rw [e]
      ((apply CQ.end1; (· rfl); (· exact .tmp rfl)); (· exact ⟨rfl, rfl⟩); (· exact selA))
/-- Bytes with room behind them. -/
def wideB (b : Blk) : Blk := b ++ List.replicate 3 7
theorem wide_hi {B : Blk} {i : Nat} (h : B.length ≤ i) (hi : i < (wideB B).length) : (wideB B)[i] = 7 := by
  have h2 : i < B.length + 3 := by simpa [wideB] using hi
  have e : (wideB B)[i]? = some 7 := by
    rw [wideB, List.getElem?_append_right h, List.getElem?_replicate, if_pos (by omega)]
  rw [List.getElem?_eq_getElem hi] at e
  exact Option.some.inj e
theorem wide_c (B : Blk) (hB : B.length ≤ 140737488351232) (a : Option Addr) (cap : Nat) : Ctr Tryz.prog 34 [.slice a B.length cap] [] (fun x => rdx a B.length (cb B) x)
    (fun v M => ∃ b, v = .slice (some ⟨b, 0, none⟩) B.length (B.length + 3) ∧ M = [own 5 1 (some ⟨b, 0, none⟩) (B.length + 3) (B.length + 3) (cb (wideB B))]) := by
  refine Ctr.intro Tryz.func34 rfl Tryz.ntmps34 rfl fun x w hp => ?_
  have e0 : (B.length : Int) + 3 = ((B.length + 3 : Nat) : Int) := by omega
  refine wk ?_
  rw [e0]
  (refine CX.makeB (B.length + 3) (by omega) ?_; intro b)
  refine wk ?_
  refine CC.loop (X := Nat) (fun i => [(4, .int .i64 (i : Int)), (3, .slice (some ⟨b, 0, none⟩) (B.length + 3) (B.length + 3)), (0, .slice a B.length cap)])
    (fun i => [own 5 1 (some ⟨b, 0, none⟩) (B.length + 3) (B.length + 3) (cb (ins (List.replicate (B.length + 3) 0) 0 ((wideB B).take i))), exact x]) (fun i => i ≤ B.length + 3) (fun i => B.length + 3 - i) 0 (Nat.zero_le _) ⟨rfl, rfl, rfl, trivial⟩ (by simp only [List.take_zero, ins_zero]; exact selA) ?_
  intro i hi
  have lw : (wideB B).length = B.length + 3 := by simp [wideB]
  by_cases h1 : i < B.length + 3
  · have k1 : i < (wideB B).length := by omega
    have s1 := ins_step (B := List.replicate (B.length + 3) 0) (c := wideB B) (f := 0) k1 (by simp [lw])
    rw [Nat.zero_add] at s1
    have l1 : (ins (List.replicate (B.length + 3) 0) 0 ((wideB B).take i)).length = B.length + 3 := by rw [ins_len] <;> simp [lw]; omega
    refine wk ?_
    (refine CX.index0 (i) ?_ ?_; (· exact h1))
    (refine CX.storeOB (i) (7) ?_ ?_ ?_; (· omega); (· omega))
    by_cases h2 : i < B.length
    · have e1 : (wideB B)[i] = B[i] := by simp [wideB, h2]
      obtain ⟨g, off, rfl⟩ := rdx_some hp (by omega)
      refine wk ?_
      (refine CX.indexA (i) ?_ ?_; (· exact h2))
      (refine CX.loadA _ (CellAt.rd (j := i) (by first | exact pickA | exact updA) hp rfl h2) ?_)
      (refine CX.index0 (i) ?_ ?_; (· exact h1))
      (refine CX.storeOB (i) (B[i]) ?_ ?_ ?_; (· (rw [List.length_set]; omega)); (· (rw [List.length_set]; omega)))
      rw [List.set_set, ← e1, s1]
      refine wk ?_
      exact CQ.round (i + 1) (by omega) (by omega) ⟨eqI (by omega), rfl, rfl, trivial⟩ (by exact selA)
    · have e1 : (wideB B)[i] = 7 := wide_hi (by omega) k1
      rw [← e1, s1]
      refine wk ?_
      exact CQ.round (i + 1) (by omega) (by omega) ⟨eqI (by omega), rfl, rfl, trivial⟩ (by exact selA)
  · obtain rfl : i = B.length + 3 := by omega
    have e2 : ins (List.replicate (B.length + 3) 0) 0 ((wideB B).take (B.length + 3)) = wideB B := by
      rw [List.take_of_length_le (by omega)]
      unfold ins
      rw [List.drop_of_length_le (by simp [lw])]; simp
    rw [e2]
    refine wk ?_
    refine CX.ps (PS.sliceHi (h := B.length) rfl rfl (.inr ⟨b, 0, rfl⟩) rfl rfl (by omega)) ?_
    refine wk ?_
    ((apply CQ.end1; (· rfl); (· exact .tmp rfl)); (· exact ⟨b, rfl, rfl⟩); (· exact selA))
end Go.Proofs.YtlckhaodecdbbaaGreatDoor
/-! Blocks that layer 5's statements look at first. -/
namespace Go.Cx
theorem putM_ok {n : Nat} {b : Blk} (h1 : n ≠ 0) (h2 : b.length ≤ 108) : putM n b = (sealB n b, 0) := by unfold putM; rw [if_neg h1, if_neg (by omega)]
theorem getM_z : getM zblk = (0, [], 5) := by unfold getM; rw [if_pos]; left; decide
theorem get5 : getM (sealB 5 []) = (5, padB 108 [], 0) := get_sealB (by omega) (by decide) (by simp)
theorem get6 : getM (sealB 6 []) = (6, padB 108 [], 0) := get_sealB (by omega) (by decide) (by simp)
theorem new56 : newestM (sealB 5 []) (sealB 6 []) = (1, 0) := by unfold newestM; rw [get5, get6]; decide
theorem next65 : nextM (sealB 6 []) (sealB 5 []) = 1 := by unfold nextM; rw [get5, get6]; decide
theorem next00 : nextM zblk zblk = 0 := by unfold nextM; rw [getM_z]; decide
theorem at5 : ∀ i, i < 8 → (sealB 5 [])[i]? = some (if i = 0 then 5 else 0) := fun i hi => by
  have h : ((sealB 5 []).take 8)[i]? = some (if i = 0 then 5 else 0) := by
    rw [sealB_8]; revert i; decide
  rw [List.getElem?_take, if_pos hi] at h; exact h
theorem at5' : ∀ i, i < 8 → (sealB 5 [])[120 + i]? = some (if i = 0 then 250 else 255) := fun i hi => by
  have h : ((sealB 5 []).drop 120)[i]? = some (if i = 0 then 250 else 255) := by
    rw [sealB_120 (by simp)]; revert i; decide
  rw [List.getElem?_drop] at h; exact h
end Go.Cx
namespace Go.Proofs.YtlckhaodecdbbaaGreatDoor
open Go.Cx
attribute [local irreducible] Go.Cx.CX Go.Cx.CC Go.Cx.CQ Go.Cx.PS Go.Cx.Ctr Go.Cx.CH
set_option maxRecDepth 10000
end Go.Proofs.YtlckhaodecdbbaaGreatDoor
/-! What the statement SealTells does, step by step. -/
namespace Go.Proofs.YtlckhaodecdbbaaGreatDoor
open Go.Cx
theorem wide_len (B : Blk) : (wideB B).length = B.length + 3 := by simp [wideB]
theorem wide_take (B : Blk) : (wideB B).take B.length = B := by simp [wideB]
attribute [local irreducible] Go.Cx.CX Go.Cx.CC Go.Cx.CQ Go.Cx.PS Go.Cx.Ctr Go.Cx.CH
set_option maxRecDepth 10000
theorem left_c (B : Blk) (hB : B.length ≤ 140737488351232) (b : Nat) (a : Option Addr) (cap : Nat) : Ctr Tryz.prog 35 [.slice (some ⟨b, 0, none⟩) B.length (B.length + 3), .slice a B.length cap] [own 5 1 (some ⟨b, 0, none⟩) (B.length + 3) (B.length + 3) (cb (wideB B))]
    (fun x => rdx a B.length (cb B) x) (fun v M => v = .bool true ∧ M = [own 5 1 (some ⟨b, 0, none⟩) (B.length + 3) (B.length + 3) (cb (wideB B))]) := by
  have lw := wide_len B
  have w1 : ∀ i (h : i < (wideB B).length), B.length ≤ i → (wideB B)[i] = 7 := fun i h h2 => wide_hi h2 h
  have cut0 : cutAt (some ⟨b, 0, none⟩) 0 (B.length + 3) 1 = some ⟨b, 0, none⟩ := by unfold cutAt; rw [if_neg (by omega)]; simp [addr_add]
  refine Ctr.intro Tryz.func35 rfl Tryz.ntmps35 rfl fun x w hp => ?_
  refine wk ?_
  have cs := same_c ((wideB B).take B.length) B (some ⟨b, 0, none⟩) a (B.length + 3) cap
  rw [wide_take] at cs
  refine CX.callA (cs) ?_ (hpre := by exact fun y hy => ⟨by have := rdx_pre (rdx_own (e := 5) (by first | exact pickA | exact updA) lw.symm y hy) lw.symm B.length (by omega); rwa [wide_take] at this, rdx_ex (by first | exact pickA | exact updA) hp y hy⟩)
  clear cs
  rintro _ _ ⟨rfl, rfl⟩
  rw [decide_eq_true rfl]
  have e3 : ((B.length + 3 : Nat) : Int) = (B.length : Int) + 3 := by omega
  refine wk ?_
  refine CX.ps (PS.slice3 (l := 0) (h := B.length + 3) (m := B.length + 3) rfl rfl rfl rfl rfl (.inl ⟨rfl, rfl⟩) ⟨_, rfl⟩ (by omega) (by omega) (by omega)) ?_
  rw [cut0]
  refine wk ?_
  (refine CX.index0 (B.length) ?_ ?_; (· omega))
  (refine CX.loadA _ (CellAt.ownB (j := B.length) (by first | exact pickA | exact updA) (by omega)) ?_)
  rw [w1 _ _ (by omega)]
  refine wk ?_
  (refine CX.index0 (B.length + 1) ?_ ?_; (· omega))
  (refine CX.loadA _ (CellAt.ownB (j := B.length + 1) (by first | exact pickA | exact updA) (by omega)) ?_)
  rw [w1 _ _ (by omega)]
  refine wk ?_
  (refine CX.index0 (B.length + 2) ?_ ?_; (· omega))
  (refine CX.loadA _ (CellAt.ownB (j := B.length + 2) (by first | exact pickA | exact updA) (by omega)) ?_)
  rw [w1 _ _ (by omega)]
  refine wk ?_
  ((apply CQ.end1; (· rfl); (· exact .tmp rfl)); (· exact ⟨rfl, rfl⟩); (· exact selA))
theorem spoil_c (Z : Blk) (n cap : Nat) (a : Option Addr) (y : UInt8) (hZ : Z.length = cap) (hc : cap ≤ 9223372036854775807) (ha : a = none → cap = 0) : Ctr Tryz.prog 36 [.slice a n cap, .int .u8 (y.toNat : Int)] [own 5 1 a cap cap (cb Z)] (fun _ => True) (fun v M => v = .tuple #[] ∧ M = []) := by
  refine Ctr.intro Tryz.func36 rfl Tryz.ntmps36 rfl fun x w hp => ?_
  refine CC.fact (p := a = none ∨ ∃ b o, a = some ⟨b, o, none⟩) (fun h hs => ?_) ?_
  · rcases own_some (Sep.head hs) with ⟨h, _⟩ | ⟨b, h⟩
    · exact .inl h
    · exact .inr ⟨b, 0, h⟩
  intro hab
  have cut0 : cutAt a 0 cap 1 = a := by
    rcases hab with rfl | ⟨b, o, rfl⟩ <;> unfold cutAt <;> split <;> simp [addr_add]
  refine wk ?_
  refine CX.ps (PS.slice3 (l := 0) (h := cap) (m := cap) rfl rfl rfl rfl rfl (.inl ⟨rfl, rfl⟩) ⟨_, rfl⟩ (by omega) (by omega) (by omega)) ?_
  rw [cut0]
  refine wk ?_
  refine CC.loop (X := Nat × Blk) (fun s => [(5, .int .i64 (s.1 : Int)), (4, .slice a (cap - 0) (cap - 0)), (1, .int .u8 (y.toNat : Int))])
    (fun s => [own 5 1 a cap cap (cb s.2), exact x]) (fun s => s.1 ≤ cap ∧ s.2.length = cap) (fun s => cap - s.1) (0, Z) ⟨Nat.zero_le _, hZ⟩ ⟨rfl, rfl, rfl, trivial⟩ (by exact selA) ?_
  rintro ⟨i, Y⟩ ⟨hi, hY⟩
  dsimp only at hi hY ⊢
  by_cases h1 : i < cap
  · refine CC.fact (p := ∃ b, a = some ⟨b, 0, none⟩) (fun h hs => ?_) ?_
    · rcases own_some (Sep.head hs) with ⟨_, h0, _⟩ | h
      · omega
      · exact h
    rintro ⟨b, rfl⟩
    have k1 : i < Y.length := by omega
    refine wk ?_
    (refine CX.index0 (i) ?_ ?_; (· omega))
    (refine CX.loadA _ (CellAt.ownB (j := i) (by first | exact pickA | exact updA) k1) ?_)
    refine wk ?_
    refine CX.ps (PS.xorN (k := .u8) Y[i].toNat y.toNat rfl (UInt8.toNat_lt _) (UInt8.toNat_lt _) rfl rfl rfl) ?_
    rw [← UInt8.toNat_xor]
    (refine CX.index0 (i) ?_ ?_; (· omega))
    (refine CX.storeOB (i) (Y[i] ^^^ y) ?_ ?_ ?_; (· exact k1); (· omega))
    refine wk ?_
    exact CQ.round (x := (i, Y)) (i + 1, Y.set i (Y[i] ^^^ y)) ⟨by dsimp only; omega, by simp [hY]⟩ (by dsimp only; omega) ⟨eqI (by dsimp only; omega), rfl, rfl, trivial⟩ (by exact selA)
  · refine wk ?_
    (apply CQ.end0; (· rfl))
    · exact ⟨rfl, rfl⟩
    · exact selA
end Go.Proofs.YtlckhaodecdbbaaGreatDoor
/-! Copies of which all the array is known (to be spoiled). -/
namespace Go.Cx
/-- A slice of bytes of whose whole array we may dispose, and know that it holds bytes. -/
@[irreducible] def ownF (e : TypeId) (a : Option Addr) (B : Blk) (c : Nat) : Assn where
  ok h := (own e 1 a B.length c (cb B)).ok h ∧ ∃ Z : Blk, Z.length = c ∧ (own e 1 a c c (cb Z)).ok h
  mono := fun _ _ l ⟨h, Z, k, m⟩ => ⟨(own _ _ _ _ _ _).mono _ _ l h, Z, k, (own _ _ _ _ _ _).mono _ _ l m⟩
theorem ownF_ok {e : TypeId} {a : Option Addr} {B : Blk} {c : Nat} {h : PH} : (ownF e a B c).ok h ↔ (own e 1 a B.length c (cb B)).ok h ∧ ∃ Z : Blk, Z.length = c ∧ (own e 1 a c c (cb Z)).ok h := by unfold ownF; exact Iff.rfl
theorem ownF_own {e : TypeId} {a : Option Addr} {B : Blk} {c : Nat} (h : PH) (s : (ownF e a B c).ok h) : (own e 1 a B.length c (cb B)).ok h := (ownF_ok.1 s).1
theorem own_take {e : TypeId} {a : Option Addr} {Z : Blk} {c m : Nat} {h : PH} (hz : Z.length = c) (hm : m ≤ c) (s : (own e 1 a c c (cb Z)).ok h) : (own e 1 a m c (cb (Z.take m))).ok h := by
  obtain ⟨h1, h2, h3, h4⟩ := own_ok.1 s
  refine own_ok.2 ⟨by simp; omega, hm, h3, h4.imp id fun ⟨g, cur, e1, e2, e3, e4⟩ => ⟨g, cur, e1, e2, e3, ?_⟩⟩
  rw [Nat.mul_one] at e4 ⊢
  rw [← cb_take, ← e4, List.take_take]
  congr 1; omega
theorem ownF_of {e : TypeId} {a : Option Addr} {Z : Blk} {c m : Nat} {B : Blk} (hz : Z.length = c) (hm : m ≤ c) (hB : Z.take m = B) (hl : B.length = m) (h : PH) (s : (own e 1 a c c (cb Z)).ok h) : (ownF e a B c).ok h :=
  ownF_ok.2 ⟨by rw [hl, ← hB]; exact own_take hz hm s, Z, hz, s⟩
theorem ownF_nil (e : TypeId) (h : PH) : (ownF e none [] 0).ok h := ownF_ok.2 ⟨own_ok.2 ⟨rfl, Nat.le_refl _, Nat.zero_le _, .inl ⟨rfl, rfl⟩⟩, [], rfl, own_ok.2 ⟨rfl, Nat.le_refl _, Nat.zero_le _, .inl ⟨rfl, rfl⟩⟩⟩
section
variable {P : Program} {ops : Array Oper} {Q : Exit → Act → World → Prop} {K : Act → World → Prop} {n : Nat} {e0 : World} {env : Env} {L M : List Assn} {rest : List Oper}
variable {dst : Option Tmp} {ty : TypeId} {pos : String} {aft : Array Edge} {g : Option (Nat × Bool)}
theorem CX.openF {e : TypeId} {a : Option Addr} {B : Blk} {c : Nat} (h : ∀ Z : Blk, Z.length = c → (a = none → c = 0) → c ≤ maxLen → CX P ops Q n e0 env (own e 1 a c c (cb Z) :: M) rest) (p : Pick (ownF e a B c) L M := by first | exact pickA | exact updA) : CX P ops Q n e0 env L rest :=
  fun a' w hf hs he => by
    have hs' := p.sep hs
    obtain ⟨S, hA, hM⟩ := hs'
    obtain ⟨-, Z, hz, hZ⟩ := ownF_ok.1 hA
    obtain ⟨q1, q2, q3, q4⟩ := own_ok.1 hZ
    exact h Z hz (fun e => by subst e; rcases q4 with ⟨-, h⟩ | ⟨g, cur, h, -⟩; · exact h
                              · cases h) q3 a' w hf ⟨S, hZ, hM⟩ he
theorem CX.append0 {t e by_ : Nat} {z : Value} [E : ElemA P t e 1] [I : InfA P e 1 by_ z] {x y : Operand} {b0 c : Nat} {b : Addr} (h : CX P ops Q n e0 (putE env dst (.slice (some ⟨b0, 0, none⟩) 0 0)) L rest)
    (hg : gd ops n env g = some true := by rfl) (hx : ev n env x = some (.slice (some ⟨b0, 0, none⟩) 0 0) := by rfl) (hy : ev n env y = some (.slice (some b) 0 c) := by rfl) :
    CX P ops Q n e0 env L (⟨dst, .call ⟨.builtin .append, #[x, y], #[t, t]⟩, ty, pos, aft, g⟩ :: rest) := by
  refine CX.step hg fun w0 w hf hs he K hK => ?_
  obtain ⟨i, hi, hz, hsz, hby⟩ := info_parts I.inf
  have hrun := run_append_room_cells (P := P) w t ty e i E.under hi b0 0 0 0 b 0 c [] (by simp) (by intro j u hj; simp at hj) (by intro u hu; cases hu) (Nat.le_refl _) (by intro j hj; simp at hj) (by intro j hj; simp at hj)
  have hr2 : (execOp w0.eval ⟨dst, .call ⟨.builtin .append, #[x, y], #[t, t]⟩, ty, pos, aft, g⟩).run P w = .ok (.value (.slice (some ⟨b0, 0, none⟩) 0 0)) w := by
    simp [execOp, resolve, invoke, builtin, hf.eval hx, hf.eval hy, hrun, World.setCells]
  unfold Oper.wp
  rw [hr2]
  exact hK _ _ (h _ _ (hf.put dst _) hs he)
end
end Go.Cx
namespace Go.Proofs.YtlckhaodecdbbaaGreatDoor
open Go.Cx
attribute [local irreducible] Go.Cx.CX Go.Cx.CC Go.Cx.CQ Go.Cx.PS Go.Cx.Ctr Go.Cx.CH
set_option maxRecDepth 10000
theorem spoilF_c (a : Option Addr) (B : Blk) (c : Nat) (y : UInt8) : Ctr Tryz.prog 36 [.slice a B.length c, .int .u8 (y.toNat : Int)] [ownF 5 a B c] (fun _ => True) (fun v M => v = .tuple #[] ∧ M = []) :=
  Ctr.ofC fun x w hs hp => by
    obtain ⟨S, hA, hM⟩ := hs
    obtain ⟨-, Z, hz, hZ⟩ := ownF_ok.1 hA
    obtain ⟨q1, q2, q3, q4⟩ := own_ok.1 hZ
    have hmx : maxLen ≤ 9223372036854775807 := by decide
    exact Ctr.toC (spoil_c Z B.length c a y hz (by omega) (fun e => by
      subst e
      rcases q4 with ⟨-, h⟩ | ⟨g, cur, h, -⟩
      · exact h
      · cases h)) x w ⟨S, hZ, hM⟩ trivial
theorem cloneF_c (s : SlB) (hl : s.b.length ≤ 1073741824) : Ctr Tryz.prog 84 [.slice s.a s.b.length s.c] [] (fun x => s.ok x) (fun v M => ∃ a c, v = .slice a s.b.length c ∧ M = [ownF 5 a s.b c]) := by
  obtain ⟨a, b, c⟩ := s
  dsimp only at hl ⊢
  refine Ctr.intro Tryz.func84 rfl Tryz.ntmps84 rfl fun x w hp => ?_
  cases a with
  | none =>
    obtain ⟨h1, h2⟩ := hp.nil rfl
    dsimp only at h1 h2
    subst h1; subst h2
    refine CC.give (ownF 5 none [] 0) (ownF_nil 5) ?_
    refine wk ?_
    (apply CQ.end1; (· rfl); (· exact .tmp rfl))
    · exact ⟨none, 0, rfl, rfl⟩
    · exact selA
  | some ad =>
    refine wk ?_
    refine CX.buildSl0 ?_
    intro q
    refine wk ?_
    by_cases h0 : b.length = 0
    · have hb : b = [] := List.eq_nil_of_length_eq_zero h0
      subst hb
      refine CX.append0 ?_
      refine CX.turn (ownF 5 (some ⟨q, 0, none⟩) [] 0) (fun h s => ownF_ok.2 ⟨s, [], rfl, s⟩) ?_
      refine wk ?_
      (apply CQ.end1; (· rfl); (· exact .tmp rfl))
      · exact ⟨_, _, rfl, rfl⟩
      · exact selA
    · refine CX.appendF (C := b) rfl (by omega) (by omega) (rdS_of1 (rdx_ex (by first | exact pickA | exact updA) hp.r) rfl) ?_
      intro q' cap Z hq1 hq2 hq3
      refine CX.turn (ownF 5 (some ⟨q', 0, none⟩) b cap) (ownF_of hq2 hq1 hq3 rfl) ?_
      refine wk ?_
      (apply CQ.end1; (· rfl); (· exact .tmp rfl))
      · exact ⟨_, _, rfl, rfl⟩
      · exact selA
theorem slclF_c (s : SlB) (hl : s.b.length ≤ 1073741824) : Ctr Tryz.prog 55 [.slice s.a s.b.length s.c] [] (fun x => s.ok x) (fun v M => ∃ a c, v = .slice a s.b.length c ∧ M = [ownF 5 a s.b c]) := by
  obtain ⟨a, b, c⟩ := s
  dsimp only at hl ⊢
  refine Ctr.intro Tryz.func55 rfl Tryz.ntmps55 rfl fun x w hp => ?_
  cases a with
  | none =>
    obtain ⟨h1, h2⟩ := hp.nil rfl
    dsimp only at h1 h2
    subst h1; subst h2
    refine CC.give (ownF 5 none [] 0) (ownF_nil 5) ?_
    refine wk ?_
    (apply CQ.end1; (· rfl); (· exact .tmp rfl))
    · exact ⟨none, 0, rfl, rfl⟩
    · exact selA
  | some ad =>
    refine wk ?_
    refine CX.buildSl0 ?_
    intro q
    refine wk ?_
    by_cases h0 : b.length = 0
    · have hb : b = [] := List.eq_nil_of_length_eq_zero h0
      subst hb
      refine CX.append0 ?_
      refine CX.turn (ownF 5 (some ⟨q, 0, none⟩) [] 0) (fun h s => ownF_ok.2 ⟨s, [], rfl, s⟩) ?_
      refine wk ?_
      (apply CQ.end1; (· rfl); (· exact .tmp rfl))
      · exact ⟨_, _, rfl, rfl⟩
      · exact selA
    · refine CX.appendF (C := b) rfl (by omega) (by omega) (rdS_of1 (rdx_ex (by first | exact pickA | exact updA) hp.r) rfl) ?_
      intro q' cap Z hq1 hq2 hq3
      refine CX.turn (ownF 5 (some ⟨q', 0, none⟩) b cap) (ownF_of hq2 hq1 hq3 rfl) ?_
      refine wk ?_
      (apply CQ.end1; (· rfl); (· exact .tmp rfl))
      · exact ⟨_, _, rfl, rfl⟩
      · exact selA
theorem findF_c (l : List RwV) (hl : l.length ≤ 1073741824) (hm : MayR (l.map RwV.m)) (a : Option Addr) (cap : Nat) (k : Blk) : Ctr Tryz.prog 65 [.slice a l.length cap, sv k] [] (fun x => rwAt a l x)
    (fun v M => ∃ a' B c' d, v = .tuple #[.slice a' (List.length B) c', .bool d] ∧ M = [ownF 5 a' B c'] ∧ (d = true → val (l.map RwV.m) k = some B) ∧ (d = false → val (l.map RwV.m) k = none ∧ B = [])) := by
  refine Ctr.intro Tryz.func65 rfl Tryz.ntmps65 rfl fun x w hp => ?_
  refine wk ?_
  refine CX.callA (mayR_c l (by omega) a cap) ?_ (hpre := by exact rw_ex (by first | exact pickA | exact updA) hp)
  rw [decide_eq_true hm]
  rintro _ _ ⟨rfl, rfl⟩
  refine wk ?_
  refine CX.callA (bs_c l hl hm.1 a cap k) ?_ (hpre := by exact rw_ex (by first | exact pickA | exact updA) hp)
  rintro _ _ ⟨i, d, rfl, rfl, hd1, hd2⟩
  cases d with
  | false =>
    refine CX.give (ownF 5 none [] 0) (ownF_nil 5) ?_
    refine wk ?_
    (apply CQ.end2; (· rfl); (· exact .tmp rfl); (· exact .tmp rfl))
    · refine ⟨none, [], 0, false, rfl, rfl, (fun h => by cases h), fun _ => ⟨val_none fun x hx => ?_, rfl⟩⟩
      obtain ⟨r, hr, rfl⟩ := List.mem_map.1 hx
      exact hd2 rfl r hr
    · exact selA
  | true =>
    obtain ⟨hi, hk⟩ := hd1 rfl
    obtain ⟨g, off, rfl⟩ := rwAt_some hp (by omega)
    have hv : (l[i]).s.b.length ≤ 1073741824 := by
      have := (hm.2 (l[i]).m (List.mem_map_of_mem (List.getElem_mem hi))).2.2
      have e : (l[i]).m.2.length = (l[i]).s.b.length := rfl
      omega
    refine wk ?_
    (refine CX.indexA (i) ?_ ?_; (· exact hi))
    refine wk ?_
    (apply CX.ps; (· apply PS.load (v := .slice (l[i]).s.a (l[i]).s.b.length (l[i]).s.c); (· rfl); (· rfl); (· exact hp.cell (by first | exact pickA | exact updA) hi 1 rfl)))
    refine CX.callA (cloneF_c (l[i]).s hv) ?_ (hpre := by exact fun y hy => (hp.2 l[i] (List.getElem_mem hi)).mono (Pick.ok (show Pick (exact x) _ _ from by first | exact pickA | exact updA) hy))
    rintro _ _ ⟨a', c', rfl, rfl⟩
    refine wk ?_
    (apply CQ.end2; (· rfl); (· exact .tmp rfl); (· exact .tmp rfl))
    · refine ⟨a', (l[i]).s.b, c', true, rfl, rfl, fun _ => ?_, fun h => by cases h⟩
      have := val_mem hm.1 (x := (l[i]).m) (List.mem_map_of_mem (List.getElem_mem hi))
      rw [← hk]; exact this
    · exact selA
end Go.Proofs.YtlckhaodecdbbaaGreatDoor
/-! store's methods, but for Commit, in the program. -/
namespace Go.Cx
/-- A store on a disk at rest, the power to be cut at some step, or at none. -/
structure GoodS (n N : Nat) (D : DS) (J : JM) (bs : List Blk) (t : Tab) : Prop where
  g : GoodC n N D J bs
  fold : foldB bs = some t
  few : bs.length ≤ J.n
theorem GoodS.may {n N : Nat} {D : DS} {J : JM} {bs : List Blk} {t : Tab} (h : GoodS n N D J bs t) : MayR t := fold_may bs t h.fold
theorem GoodS.up {n N M : Nat} {D : DS} {J : JM} {bs : List Blk} {t : Tab} (g : GoodS n N D J bs t) (h : N ≤ M) : GoodS n M D J bs t := ⟨g.g.up h, g.fold, g.few⟩
theorem GoodS.arm {n N : Nat} {D : DS} {J : JM} {bs : List Blk} {t : Tab} (g : GoodS n N D J bs t) (K : Nat) (hK : K < 1000) : GoodS n N { D with left := (K : Int) } J bs t := ⟨g.g.arm K hK, g.fold, g.few⟩
theorem GoodC.bank {n N : Nat} {D : DS} {J : JM} {bs : List Blk} (g : GoodC n N D J bs) : bankM D = (n - 2) / 2 := by unfold bankM; rw [g.len]
/-- A store's cells. -/
def stc (p : Nat) (a : Option Addr) (m c : Nat) : List Value := [.pointer (some ⟨p, 0, none⟩), .slice a m c]
theorem bsA_get {L L' : List Assn} {a : Option Addr} {l : List SlB} (p : Pick (bsA a l) L L') {i : Nat} (hi : i < l.length) : ∀ y, Sep L y → SlB.ok y l[i] := fun y hy => (bs_bsA p y hy).2 _ (List.getElem_mem hi)
end Go.Cx
namespace Go.Proofs.YtlckhaodecdbbaaGreatDoor
open Go.Cx
attribute [local irreducible] Go.Cx.CX Go.Cx.CC Go.Cx.CQ Go.Cx.PS Go.Cx.Ctr Go.Cx.CH
set_option maxRecDepth 10000
theorem stnone0_c : Ctr Tryz.prog 44 [.pointer none] [] (fun _ => True) (fun v M => v = .bool true ∧ M = []) := by
  refine Ctr.intro Tryz.func44 rfl Tryz.ntmps44 rfl fun x w hp => ?_
  refine wk ?_
  ((apply CQ.end1; (· rfl); (· exact .tmp rfl)); (· exact ⟨rfl, rfl⟩); (· exact selA))
theorem stnoneZ_c (s : Nat) (u : Value) : Ctr Tryz.prog 44 [.pointer (some ⟨s, 0, none⟩)] [bk s 79 [.pointer none, u]] (fun _ => True) (fun v M => v = .bool true ∧ M = [bk s 79 [.pointer none, u]]) := by
  refine Ctr.intro Tryz.func44 rfl Tryz.ntmps44 rfl fun x w hp => ?_
  refine wk ?_
  ((apply CQ.end1; (· rfl); (· exact .tmp rfl)); (· exact ⟨rfl, rfl⟩); (· exact selA))
theorem stnone_c (s p : Nat) (u : Value) : Ctr Tryz.prog 44 [.pointer (some ⟨s, 0, none⟩)] [bk s 79 [.pointer (some ⟨p, 0, none⟩), u]] (fun _ => True) (fun v M => v = .bool false ∧ M = [bk s 79 [.pointer (some ⟨p, 0, none⟩), u]]) := by
  refine Ctr.intro Tryz.func44 rfl Tryz.ntmps44 rfl fun x w hp => ?_
  refine wk ?_
  ((apply CQ.end1; (· rfl); (· exact .tmp rfl)); (· exact ⟨rfl, rfl⟩); (· exact selA))
theorem smake_new (d n : Nat) (h1 : 64 ≤ n) (h2 : n ≤ 4096) : Ctr Tryz.prog 9 [.pointer (some ⟨d, 0, none⟩)] [disk d (DS.new n)] (fun _ => True)
    (fun v M => ∃ s p D, v = .tuple #[.pointer (some ⟨s, 0, none⟩), .int .i64 0] ∧ M = [bk s 79 (stc p none 0 0), bk p 123 (jrc d ⟨1, HdM.z⟩), disk d D, tabA none []] ∧ GoodS n 2060 D ⟨1, HdM.z⟩ [] [] ∧ D.left = 0) := by
  refine Ctr.intro Tryz.func9 rfl Tryz.ntmps9 rfl fun x w hp => ?_
  refine wk ?_
  refine CX.callA (jmake_new d n h1 h2) ?_
  rintro _ _ ⟨p, D, rfl, rfl, g⟩
  refine wk ?_
  refine CX.ps (PS.build (vs := [(0, .pointer (some ⟨p, 0, none⟩))]) (out := stc p none 0 0) rfl rfl rfl) ?_
  (refine CX.boxA (vs := stc p none 0 0) ?_; intro s)
  refine CX.give (tabA none []) (fun k => tabA_ok.2 ⟨.inl rfl, fun _ h => by cases h⟩) ?_
  refine wk ?_
  (apply CQ.end2; (· rfl); (· exact .tmp rfl); (· exact .tmp rfl))
  · exact ⟨s, p, D, rfl, rfl, ⟨⟨g.wf, g.calm, g.len, g.js⟩, rfl, Nat.zero_le _⟩, g.left⟩
  · exact selA
theorem sroom_c (s p d : Nat) (u : Value) {n N : Nat} {D : DS} {J : JM} {bs : List Blk} (g : GoodC n N D J bs) : Ctr Tryz.prog 29 [.pointer (some ⟨s, 0, none⟩)] [bk s 79 [.pointer (some ⟨p, 0, none⟩), u], bk p 123 (jrc d J), disk d D] (fun _ => True)
    (fun v M => v = .int .i64 ((((n - 2) / 2 : Nat) : Int) - (J.h.blocks : Int)) ∧ M = [bk s 79 [.pointer (some ⟨p, 0, none⟩), u], bk p 123 (jrc d J), disk d D]) := by
  have hr := jroom_c p d J (bits_small g.js.may).2.2 D g.wf
  rw [g.bank] at hr
  refine Ctr.intro Tryz.func29 rfl Tryz.ntmps29 rfl fun x w hp => ?_
  refine wk ?_
  refine CX.callA (stnone_c s p u) ?_
  rintro _ _ ⟨rfl, rfl⟩
  refine wk ?_
  refine CX.callA (hr) ?_
  rintro _ _ ⟨rfl, rfl⟩
  refine wk ?_
  ((apply CQ.end1; (· rfl); (· exact .tmp rfl)); (· exact ⟨rfl, rfl⟩); (· exact selA))
theorem svalue_c (s p : Nat) (a : Option Addr) (tl : List RwV) (c : Nat) (hl : tl.length ≤ 1073741824) (hm : MayR (tl.map RwV.m)) (k : Blk) : Ctr Tryz.prog 26 [.pointer (some ⟨s, 0, none⟩), sv k] [bk s 79 (stc p a tl.length c), tabA a tl] (fun _ => True)
    (fun v M => ∃ a' B c' d, v = .tuple #[.slice a' (List.length B) c', .bool d] ∧ M = [bk s 79 (stc p a tl.length c), tabA a tl, ownF 5 a' B c'] ∧ (d = true → val (tl.map RwV.m) k = some B) ∧ (d = false → val (tl.map RwV.m) k = none ∧ B = [])) := by
  unfold stc
  refine Ctr.intro Tryz.func26 rfl Tryz.ntmps26 rfl fun x w hp => ?_
  refine wk ?_
  refine CX.callA (stnone_c s p (.slice a tl.length c)) ?_
  rintro _ _ ⟨rfl, rfl⟩
  refine wk ?_
  refine CX.callA (findF_c tl hl hm a c k) ?_ (hpre := by exact rw_tab (by first | exact pickA | exact updA))
  rintro _ _ ⟨a', B, c', dd, rfl, rfl, h1, h2⟩
  refine wk ?_
  (apply CQ.end2; (· rfl); (· exact .tmp rfl); (· exact .tmp rfl))
  · exact ⟨a', B, c', dd, rfl, rfl, h1, h2⟩
  · exact selA
/-- Open: the table is what the batches come to. -/
theorem sopen_go (d : Nat) {n N : Nat} {D : DS} {J : JM} {bs : List Blk} {t : Tab} (g : GoodS n N D J bs t) (hN : N < 900000) : Ctr Tryz.prog 15 [.pointer (some ⟨d, 0, none⟩)] [disk d D] (fun _ => True)
    (fun v M => ∃ s p a tl c, v = .tuple #[.pointer (some ⟨s, 0, none⟩), .int .i64 0] ∧ M = [bk s 79 (stc p a (List.length tl) c), bk p 123 (jrc d J), disk d D, tabA a tl] ∧ tl.map RwV.m = t ∧ (a = none → tl.length = 0 ∧ c = 0) ∧ tl.length ≤ c) := by
  have hfew : bs.length ≤ 60 := by have := g.few; have := g.g.js.n2; omega
  refine Ctr.intro Tryz.func15 rfl Tryz.ntmps15 rfl fun x w hp => ?_
  refine wk ?_
  refine CX.callA (jopen_go d g.g hN) ?_
  rintro _ _ ⟨p, rfl, rfl⟩
  refine wk ?_
  refine CX.ps (PS.build (vs := [(0, .pointer (some ⟨p, 0, none⟩))]) (out := stc p none 0 0) rfl rfl rfl) ?_
  (refine CX.boxA (vs := stc p none 0 0) ?_; intro s)
  refine CX.give (tabA none []) (fun k => tabA_ok.2 ⟨.inl rfl, fun _ h => by cases h⟩) ?_
  refine wk ?_
  refine CX.callA (jbat_goC p d g.g (by omega)) ?_
  rintro _ _ ⟨a5, c5, l5, hl5, rfl, rfl⟩
  have hlen : l5.length = bs.length := by rw [← hl5, List.length_map]
  refine wk ?_
  refine CC.loop (X := Nat × Option Addr × Nat × List RwV) (fun s' => [(25, .int .i64 (s'.1 : Int)), (23, .slice a5 l5.length c5), (24, .int .i64 (l5.length : Int)), (6, .pointer (some ⟨s, 0, none⟩))])
    (fun s' => [bk s 79 (stc p s'.2.1 (List.length s'.2.2.2) s'.2.2.1), tabA s'.2.1 s'.2.2.2, bk p 123 (jrc d J), disk d D, bsA a5 l5, exact x])
    (fun s' => s'.1 ≤ l5.length ∧ foldB (bs.take s'.1) = some (s'.2.2.2.map RwV.m) ∧ s'.2.2.2.length ≤ s'.1 * 1048576 ∧ (s'.2.1 = none → s'.2.2.2.length = 0 ∧ s'.2.2.1 = 0) ∧ s'.2.2.2.length ≤ s'.2.2.1)
    (fun s' => l5.length - s'.1) (0, none, 0, []) ⟨Nat.zero_le _, rfl, Nat.zero_le _, fun _ => ⟨rfl, rfl⟩, Nat.le_refl _⟩ ⟨rfl, rfl, rfl, rfl, trivial⟩ (by exact selA) ?_
  rintro ⟨i, a, c, tl⟩ ⟨hi, hf, hw, hn, hc⟩
  dsimp only at hi hf hw hn hc ⊢
  by_cases h1 : i < l5.length
  rotate_left
  · obtain rfl : i = bs.length := by omega
    rw [List.take_length, g.fold] at hf
    refine wk ?_
    (apply CQ.end2; (· rfl); (· exact .tmp rfl); (· exact .tmp rfl))
    · exact ⟨s, p, a, tl, c, rfl, rfl, (Option.some.inj hf).symm, hn, hc⟩
    · exact selA
  have hib : i < bs.length := by omega
  obtain ⟨hg0, hf'⟩ := foldB_step g.fold hib hf
  have hbi : bs[i] = (l5[i]).b := by simp only [← hl5, List.getElem_map]
  have hbl : (l5[i]).b.length ≤ 1048576 := by rw [← hbi]; exact g.g.js.sz _ (List.getElem_mem hib)
  rw [hbi] at hg0 hf'
  refine CC.fact (p := (∃ ga oa, a5 = some ⟨ga, oa, none⟩) ∧ (l5[i]).b.length ≤ (l5[i]).c) (fun y hy => ⟨bsAt_some (bs_bsA (by first | exact pickA | exact updA) y hy) (by omega), (bsA_get (by first | exact pickA | exact updA) h1 y hy).le⟩) ?_
  rintro ⟨⟨ga, oa, rfl⟩, hcap⟩
  obtain ⟨hr0, hr1⟩ := put_getB (b := (l5[i]).b) (l := (getB (l5[i]).b).1) (by rw [← hg0])
  refine wk ?_
  (refine CX.indexA (i) ?_ ?_; (· exact h1))
  (apply CX.ps; (· apply PS.load (v := .slice (l5[i]).a (l5[i]).b.length (l5[i]).c); (· rfl); (· rfl); (· exact bsA_cell (l := l5) (by first | exact pickA | exact updA) h1)))
  refine wk ?_
  refine CX.callA (bget_c (l5[i]).b (by omega) (l5[i]).a (l5[i]).c hcap) ?_ (hpre := by exact fun y hy => (bsA_get (l := l5) (by first | exact pickA | exact updA) h1 y hy).r)
  rintro _ _ ⟨a9, c9, l9, hm9, rfl, rfl, hn9, hc9, hl9⟩
  rw [hg0]
  have hMay : MayC (l9.map ChV.m) := by rw [hm9]; exact hr0
  have hMt : MayR (tl.map RwV.m) := fold_may _ _ hf
  have hi60 : i * 1048576 ≤ 62914560 := by omega
  refine wk ?_
  refine CX.callA (apply_c tl l9 (by omega) (by omega) a a9 c c9 hc hc9) ?_ (hpre := by exact fun y hy => ⟨rw_tab (by first | exact pickA | exact updA) y hy, ch_chs (by first | exact pickA | exact updA) y hy⟩)
  rintro _ _ ⟨-, happ⟩
  obtain ⟨a', c', tl', hm', rfl, rfl, hn', hc', hl'⟩ := happ ⟨hMt, hMay⟩
  refine wk ?_
  exact CQ.round (x := (i, a, c, tl)) (i + 1, a', c', tl') ⟨h1, by rw [hf', hm', hm9], by dsimp only; omega, hn', hc'⟩ (by dsimp only; omega) ⟨eqI (by omega), rfl, rfl, rfl, trivial⟩ (by exact selA)
end Go.Proofs.YtlckhaodecdbbaaGreatDoor
/-! store's Rows, in the program. -/
namespace Go.Cx
/-- Some assertions, as one. -/
@[irreducible] def sepA (Ms : List Assn) : Assn where
  ok h := Sep Ms h
  mono := fun _ _ l s => s.mono l
theorem sepA_ok {Ms : List Assn} {h : PH} : (sepA Ms).ok h ↔ Sep Ms h := by unfold sepA; exact Iff.rfl
theorem sep_all : ∀ {Ms : List Assn} {h : PH}, Sep Ms h → ∀ B ∈ Ms, B.ok h
  | _ :: _, _, s, _, .head _ => s.head
  | _ :: _, _, s, _, .tail _ m => sep_all s.tail _ m
theorem sepA_push {B : Assn} {Ms L : List Assn} {h : PH} (s : Sep (B :: sepA Ms :: L) h) : Sep (sepA (B :: Ms) :: L) h := by
  obtain ⟨S, a, b⟩ := Sep.append (H := [B, sepA Ms]) s
  refine ⟨S, sepA_ok.2 ?_, b⟩
  obtain ⟨S', c, d⟩ := a
  exact ⟨S', c, sepA_ok.1 d.head⟩
theorem sepA_one {B : Assn} {L M : List Assn} (p : Pick (sepA [B]) L M) {h : PH} (s : Sep L h) : Sep (B :: M) h := Sep.turn p (fun k hk => (sepA_ok.1 hk).head) s
section
variable {P : Program} {ops : Array Oper} {Q : Exit → Act → World → Prop} {n : Nat} {e0 : World} {env : Env} {L M N : List Assn} {rest : List Oper} {B : Assn} {Ms : List Assn}
theorem CX.sepPush (h : CX P ops Q n e0 env (sepA (B :: Ms) :: N) rest) (p : Pick B L M := by first | exact pickA | exact updA) (q : Pick (sepA Ms) M N := by first | exact pickA | exact updA) : CX P ops Q n e0 env L rest :=
  CX.mem (fun _ s => sepA_push (Sep.cons_mono (fun _ => q.sep) (p.sep s))) h
end
def vo (e : TypeId) (r : RwV) : Assn := ownF e r.s.a r.s.b r.s.c
def vl (e : TypeId) (l : List RwV) : List Assn := (l.map (vo e)).reverse
theorem vl_snoc (e : TypeId) (l : List RwV) (r : RwV) : vl e (l ++ [r]) = vo e r :: vl e l := by simp [vl]
theorem vl_val {e : TypeId} {l : List RwV} (h : PH) (s : (sepA (vl e l)).ok h) : (valR l).ok h := valR_ok.2 fun r hr =>
  own_SlB (e := e) (ownF_own h (sep_all (sepA_ok.1 s) (vo e r) (by simp only [vl, List.mem_reverse, List.mem_map]; exact ⟨r, hr, rfl⟩)))
theorem rdS_rw {L : List Assn} {a : Option Addr} {l : List RwV} (h : ∀ y, Sep L y → rwAt a l y) : RdS L a (l.length * 2) (rows RwV.cells l) :=
  ⟨one_rw l, fun y hy => ⟨by rw [length_rows RwV.cells 2 l (fun _ _ => rfl)], by have := (h y hy).1; unfold rdx at this; simpa using this⟩⟩
theorem rows_set2 : ∀ (l : List RwV) (i : Nat) (h : i < l.length) (s : SlB), setL (rows RwV.cells l) (i * 2 + 1) [.slice s.a s.b.length s.c] = rows RwV.cells (l.set i ⟨(l[i]).key, s⟩)
  | r :: l, 0, _, s => by simp [rows, RwV.cells, setL]
  | r :: l, i + 1, h, s => by
    have ih := rows_set2 l i (by simpa using h) s
    have e : (i + 1) * 2 + 1 = (i * 2 + 1) + 1 + 1 := by omega
    simp only [rows, RwV.cells, setL, List.map_cons, List.flatten_cons, List.cons_append, List.nil_append, List.set_cons_succ, List.getElem_cons_succ, List.length_singleton] at ih ⊢
    rw [e]
    simp only [List.take_succ_cons, List.drop_succ_cons, List.cons_append]
    rw [← ih]
end Go.Cx
namespace Go.Proofs.YtlckhaodecdbbaaGreatDoor
open Go.Cx
attribute [local irreducible] Go.Cx.CX Go.Cx.CC Go.Cx.CQ Go.Cx.PS Go.Cx.Ctr Go.Cx.CH
set_option maxRecDepth 10000
theorem slclR_c (l : List RwV) (hl : l.length ≤ 1073741824) (a : Option Addr) (c : Nat) (hn : a = none → l.length = 0 ∧ c = 0) : Ctr Tryz.prog 54 [.slice a l.length c] [] (fun x => rwAt a l x) (fun v M => ∃ a' c', v = .slice a' l.length c' ∧ M = [own 71 2 a' l.length c' (rows RwV.cells l)]) := by
  refine Ctr.intro Tryz.func54 rfl Tryz.ntmps54 rfl fun x w hp => ?_
  cases a with
  | none =>
    obtain ⟨h1, h2⟩ := hn rfl
    obtain rfl : l = [] := List.eq_nil_of_length_eq_zero h1
    refine wk ?_
    refine CQ.ownNil 71 2 ?_
    (apply CQ.end1; (· rfl); (· exact .tmp rfl))
    · exact ⟨none, 0, rfl, rfl⟩
    · exact selA
  | some ad =>
    refine wk ?_
    refine CX.buildSl0 ?_
    intro q
    refine wk ?_
    refine CX.append (m := l.length) (news := rows RwV.cells l) rfl rfl rfl (by first | exact pickA | exact updA) (rdS_rw (rw_ex (by first | exact pickA | exact updA) hp)) (by omega) (fun h => by cases h) ?_
    intro a' c'
    rw [List.nil_append, Nat.zero_add]
    refine wk ?_
    (apply CQ.end1; (· rfl); (· exact .tmp rfl))
    · exact ⟨a', c', rfl, rfl⟩
    · exact selA
theorem srows_nil : Ctr Tryz.prog 17 [.pointer none] [] (fun _ => True) (fun v M => v = .slice none 0 0 ∧ M = []) := by
  refine Ctr.intro Tryz.func17 rfl Tryz.ntmps17 rfl fun x w hp => ?_
  refine wk ?_
  refine CX.callA (stnone0_c) ?_
  rintro _ _ ⟨rfl, rfl⟩
  refine wk ?_
  ((apply CQ.end1; (· rfl); (· exact .tmp rfl)); (· exact ⟨rfl, rfl⟩); (· exact selA))
theorem srows_c (s p : Nat) (a : Option Addr) (tl : List RwV) (c : Nat) (hl : tl.length ≤ 1073741824) (hn : a = none → tl.length = 0 ∧ c = 0) (hv : ∀ r ∈ tl, r.s.b.length ≤ 1073741824) : Ctr Tryz.prog 17 [.pointer (some ⟨s, 0, none⟩)] [bk s 79 (stc p a tl.length c), tabA a tl] (fun _ => True)
    (fun v M => ∃ a' c' l, v = .slice a' (List.length l) c' ∧ M = [bk s 79 (stc p a tl.length c), tabA a tl, own 71 2 a' (List.length l) c' (rows RwV.cells l), sepA (vl 5 l)] ∧ l.map RwV.m = tl.map RwV.m) := by
  unfold stc
  refine Ctr.intro Tryz.func17 rfl Tryz.ntmps17 rfl fun x w hp => ?_
  refine wk ?_
  refine CX.callA (stnone_c s p (.slice a tl.length c)) ?_
  rintro _ _ ⟨rfl, rfl⟩
  refine wk ?_
  refine CX.callA (slclR_c tl hl a c hn) ?_ (hpre := by exact rw_tab (by first | exact pickA | exact updA))
  rintro _ _ ⟨a', c', rfl, rfl⟩
  refine CX.give (sepA (vl 5 [])) (fun k => sepA_ok.2 trivial) ?_
  refine wk ?_
  refine CC.loop (X := Nat × List RwV) (fun s' => [(14, .int .i64 (s'.1 : Int)), (13, .int .i64 (tl.length : Int)), (3, .slice a' tl.length c')])
    (fun s' => [bk s 79 [.pointer (some ⟨p, 0, none⟩), .slice a tl.length c], tabA a tl, own 71 2 a' tl.length c' (rows RwV.cells s'.2), sepA (vl 5 (s'.2.take s'.1)), exact x])
    (fun s' => s'.1 ≤ tl.length ∧ s'.2.map RwV.m = tl.map RwV.m ∧ ∀ j (h : j < s'.2.length) (h' : j < tl.length), s'.1 ≤ j → s'.2[j] = tl[j])
    (fun s' => tl.length - s'.1) (0, tl) ⟨Nat.zero_le _, rfl, fun j h h' _ => rfl⟩ ⟨rfl, rfl, rfl, trivial⟩ (by exact selA) ?_
  rintro ⟨i, l⟩ ⟨hi, hm, hj⟩
  dsimp only at hi hm hj ⊢
  have hlen : l.length = tl.length := by have := congrArg List.length hm; simpa using this
  by_cases h1 : i < tl.length
  rotate_left
  · rw [show l.take i = l from List.take_of_length_le (by omega)]
    refine CC.mem (L' := [bk s 79 [.pointer (some ⟨p, 0, none⟩), .slice a tl.length c], tabA a tl, own 71 2 a' l.length c' (rows RwV.cells l), sepA (vl 5 l), exact x]) (fun h' s' => by rw [hlen]; exact s') ?_
    refine wk ?_
    (apply CQ.end1; (· rfl); (· exact .tmp rfl))
    · exact ⟨a', c', l, by rw [hlen], rfl, hm⟩
    · exact selA
  have h1l : i < l.length := by omega
  have hji := hj i h1l h1 (Nat.le_refl _)
  have hcell : (rows RwV.cells l)[i * 2 + 1]? = some (.slice (l[i]).s.a (l[i]).s.b.length (l[i]).s.c) := by
    have := rows_at RwV.cells 2 l (fun _ _ => rfl) i h1l 1 (by decide)
    rw [this]; rfl
  refine CC.fact (p := ∃ g, a' = some ⟨g, 0, none⟩) (fun y hy => ?_) ?_
  · obtain ⟨-, q, rfl⟩ := own_fact (e := 71) (L := [bk s 79 [.pointer (some ⟨p, 0, none⟩), .slice a tl.length c], tabA a tl, own 71 2 a' tl.length c' (rows RwV.cells l), sepA (vl 5 (l.take i)), exact x]) (by first | exact pickA | exact updA) (by omega) y hy
    exact ⟨q, rfl⟩
  rintro ⟨ga, rfl⟩
  have hvl : (l[i]).s.b.length ≤ 1073741824 := by rw [hji]; exact hv _ (List.getElem_mem h1)
  refine wk ?_
  (refine CX.index0 (i) ?_ ?_; (· exact h1))
  refine wk ?_
  (apply CX.ps; (· apply PS.load (v := .slice (l[i]).s.a (l[i]).s.b.length (l[i]).s.c); (· rfl); (· rfl); (· exact CellAt.own (by first | exact pickA | exact updA) hcell)))
  refine CX.callA (slclF_c (l[i]).s hvl) ?_ (hpre := by exact fun y hy => by rw [hji]; exact (rw_tab (a := a) (l := tl) (by first | exact pickA | exact updA) y hy).2 _ (List.getElem_mem h1))
  rintro _ _ ⟨a2, c2, rfl, rfl⟩
  (refine CX.index0 (i) ?_ ?_; (· exact h1))
  refine wk ?_
  refine CX.storeOwn (v := .slice a2 (l[i]).s.b.length c2) rfl rfl rfl rfl (by intro u hu; simp [Value.cells] at hu; rw [hu]; rfl) (by first | exact pickA | exact updA) (by show i * 2 + 1 + 1 ≤ tl.length * 2; omega) ?_
  rw [show (Value.slice a2 (l[i]).s.b.length c2).cells.toList = [.slice (SlB.a ⟨a2, (l[i]).s.b, c2⟩) (SlB.b ⟨a2, (l[i]).s.b, c2⟩).length (SlB.c ⟨a2, (l[i]).s.b, c2⟩)] from rfl, rows_set2 l i h1l ⟨a2, (l[i]).s.b, c2⟩]
  refine CX.sepPush (B := ownF 5 a2 (l[i]).s.b c2) (Ms := vl 5 (l.take i)) ?_
  have htk : ownF 5 a2 (l[i]).s.b c2 :: vl 5 (l.take i) = vl 5 ((l.set i ⟨(l[i]).key, ⟨a2, (l[i]).s.b, c2⟩⟩).take (i + 1)) := by
    rw [List.take_add_one, List.take_set_of_le (Nat.le_refl _), List.getElem?_set_self (by omega)]
    exact (vl_snoc 5 (l.take i) ⟨(l[i]).key, ⟨a2, (l[i]).s.b, c2⟩⟩).symm
  rw [htk]
  have hm' : (l.set i ⟨(l[i]).key, ⟨a2, (l[i]).s.b, c2⟩⟩).map RwV.m = tl.map RwV.m := by
    rw [← hm, List.map_set]
    apply List.ext_getElem (by simp)
    intro j h2 h3
    rw [List.getElem_set]
    split
    · rename_i e; subst e; simp [RwV.m]
    · rfl
  have hj' : ∀ j (h : j < (l.set i ⟨(l[i]).key, ⟨a2, (l[i]).s.b, c2⟩⟩).length) (h' : j < tl.length), i + 1 ≤ j → (l.set i ⟨(l[i]).key, ⟨a2, (l[i]).s.b, c2⟩⟩)[j] = tl[j] := fun j h h' hij => by
    rw [List.getElem_set_ne (by omega)]
    exact hj j (by simpa using h) h' (by omega)
  refine wk ?_
  exact CQ.round (x := (i, l)) (i + 1, l.set i ⟨(l[i]).key, ⟨a2, (l[i]).s.b, c2⟩⟩) ⟨h1, hm', hj'⟩ (by dsimp only; omega) ⟨eqI (by omega), rfl, rfl, trivial⟩ (by exact selA)
end Go.Proofs.YtlckhaodecdbbaaGreatDoor
/-! store's Commit, in the program. -/
namespace Go.Cx
/-- How laying a batch turns out, behind what the power leaves of it. -/
def TurnS (n : Nat) (J : JM) (D : DS) (bs bs' : List Blk) (q : Int × JM × DS) : Prop :=
  (q.1 = 0 ∧ q.2.1.n = J.n + 1 ∧ Calm q.2.2 ∧ q.2.2.sure.length = n ∧ JSt q.2.2.sure q.2.1 bs' ∧ (D.left = 0 → q.2.2.left = 0)) ∨
  (q.1 = 9 ∧ D.left ≠ 0 ∧ q.2.2.dark = true ∧ q.2.2.sure.length = n ∧ ∀ picks, JSt (q.2.2.crash picks).sure J bs ∨ ∃ Jn : JM, Jn.n = J.n + 1 ∧ JSt (q.2.2.crash picks).sure Jn bs')
theorem app_turn {n N : Nat} {D : DS} {J : JM} {bs : List Blk} (g : GoodC n N D J bs) (n2 : J.n ≤ 59) {b : Blk} (hb : b.length ≤ 1048576) :
    (appendM J D b = (10, J, D) ∧ (n - 2) / 2 < J.h.blocks + (cutB b).length) ∨ (J.h.blocks + (cutB b).length ≤ (n - 2) / 2 ∧ TurnS n J D bs (bs ++ [b]) (appendM J D b)) := by
  have hbk : bankS D.sure = (n - 2) / 2 := by unfold bankS; rw [g.len]
  by_cases hr : J.h.blocks + (cutB b).length ≤ bankS D.sure
  · obtain ⟨e, o⟩ := (append_out g.js g.calm n2 hb).2 hr
    refine .inr ⟨by omega, ?_⟩
    rw [e]
    rcases lay_out g.js g.calm o with ⟨h1, h2, h3, h4, h5, h6⟩ | ⟨h1, h0, h2, h3, h4, h5⟩
    · exact .inl ⟨h1, by rw [h2], h3, by rw [h4, g.len], by rw [h2]; exact h5, h6⟩
    · exact .inr ⟨h1, h0, h3, by rw [h4, g.len], fun picks => (h5 picks).imp id fun h => ⟨_, rfl, h⟩⟩
  · exact .inl ⟨(append_out g.js g.calm n2 hb).1 (by omega), by omega⟩
theorem rep_turn {n N : Nat} {D : DS} {J : JM} {bs : List Blk} (g : GoodC n N D J bs) (n2 : J.n ≤ 59) {b : Blk} (hb : b.length ≤ 1048576) :
    (replaceM J D b = (10, J, D) ∧ (n - 2) / 2 < (cutB b).length) ∨ ((cutB b).length ≤ (n - 2) / 2 ∧ TurnS n J D bs [b] (replaceM J D b)) := by
  have hbk : bankS D.sure = (n - 2) / 2 := by unfold bankS; rw [g.len]
  by_cases hr : (cutB b).length ≤ bankS D.sure
  · obtain ⟨e, o⟩ := (replace_out g.js g.calm n2 hb).2 hr
    refine .inr ⟨by omega, ?_⟩
    rw [e]
    rcases lay_out g.js g.calm o with ⟨h1, h2, h3, h4, h5, h6⟩ | ⟨h1, h0, h2, h3, h4, h5⟩
    · exact .inl ⟨h1, by rw [h2], h3, by rw [h4, g.len], by rw [h2]; exact h5, h6⟩
    · exact .inr ⟨h1, h0, h3, by rw [h4, g.len], fun picks => (h5 picks).imp id fun h => ⟨_, rfl, h⟩⟩
  · exact .inl ⟨(replace_out g.js g.calm n2 hb).1 (by omega), by omega⟩
/-- A batch, or all anew. -/
def lay9 (J : JM) (D : DS) (b w : Blk) : Int × JM × DS := if (appendM J D b).1 = 10 then replaceM J D w else appendM J D b
/-- What becomes of it. -/
def LaidS (n : Nat) (J : JM) (D : DS) (bs : List Blk) (b w : Blk) (q : Int × JM × DS) : Prop :=
  (q = (10, J, D) ∧ (n - 2) / 2 < J.h.blocks + (cutB b).length ∧ (n - 2) / 2 < (cutB w).length) ∨
  (J.h.blocks + (cutB b).length ≤ (n - 2) / 2 ∧ TurnS n J D bs (bs ++ [b]) q) ∨
  ((n - 2) / 2 < J.h.blocks + (cutB b).length ∧ (cutB w).length ≤ (n - 2) / 2 ∧ TurnS n J D bs [w] q)
theorem TurnS.ne10 {n : Nat} {J : JM} {D : DS} {bs bs' : List Blk} {q : Int × JM × DS} (h : TurnS n J D bs bs' q) : q.1 = 0 ∨ q.1 = 9 := by
  rcases h with ⟨h, -⟩ | ⟨h, -⟩
  · exact .inl h
  · exact .inr h
theorem lay9_out {n N : Nat} {D : DS} {J : JM} {bs : List Blk} (g : GoodC n N D J bs) (n2 : J.n ≤ 59) {b w : Blk} (hb : b.length ≤ 1048576) (hw : w.length ≤ 1048576) : LaidS n J D bs b w (lay9 J D b w) := by
  unfold lay9 LaidS
  rcases app_turn g n2 hb with ⟨h1, h2⟩ | ⟨h1, h2⟩
  · rw [if_pos (by rw [h1])]
    rcases rep_turn g n2 hw with ⟨h3, h4⟩ | ⟨h3, h4⟩
    · exact .inl ⟨h3, h2, h4⟩
    · exact .inr (.inr ⟨h2, h3, h4⟩)
  · rw [if_neg (by have := h2.ne10; omega)]
    exact .inr (.inl ⟨h1, h2⟩)
/-- What Commit comes to: the number, the journal, the disk and the table. -/
def commitM (J : JM) (D : DS) (t : Tab) (l : List ChM) : Int × JM × DS × Tab :=
  if ¬ MayC l then (2, J, D, t) else if l = [] then (0, J, D, t)
  else ((lay9 J D (putB l) (wholeB (applyM t l))).1, (lay9 J D (putB l) (wholeB (applyM t l))).2.1, (lay9 J D (putB l) (wholeB (applyM t l))).2.2, if (lay9 J D (putB l) (wholeB (applyM t l))).1 = 0 then applyM t l else t)
end Go.Cx
namespace Go.Proofs.YtlckhaodecdbbaaGreatDoor
open Go.Cx
attribute [local irreducible] Go.Cx.CX Go.Cx.CC Go.Cx.CQ Go.Cx.PS Go.Cx.Ctr Go.Cx.CH
set_option maxRecDepth 10000
/-- What lay leaves. -/
def LaidP (s p d : Nat) (u : Value) (N : Nat) (q : Int × JM × DS) (v : Value) (M : List Assn) : Prop :=
  ∃ E, ErrV q.1 v E ∧ M = E ++ [bk s 79 [.pointer (some ⟨p, 0, none⟩), u], bk p 123 (jrc d q.2.1), disk d q.2.2] ∧ q.2.2.wf (N + 2060)
set_option maxHeartbeats 1000000 in
theorem slay_c (s p d : Nat) (u : Value) {n N : Nat} {D : DS} {J : JM} {bs : List Blk} (g : GoodC n N D J bs) (n2 : J.n ≤ 59) (hN : N < 900000) (l : List ChV) (nl : List RwV) (hm : MayC (l.map ChV.m)) (hr : MayR (nl.map RwV.m))
    (hl : wl (l.map ChV.m) ≤ 1048572) (hn : wt (nl.map RwV.m) ≤ 1048572) (la na : Option Addr) (lc nc : Nat) (hnc : nl.length ≤ nc) :
    Ctr Tryz.prog 47 [.pointer (some ⟨s, 0, none⟩), .slice la l.length lc, .slice na nl.length nc] [bk s 79 [.pointer (some ⟨p, 0, none⟩), u], bk p 123 (jrc d J), disk d D] (fun x => chAt la l x ∧ rwAt na nl x)
      (LaidP s p d u N (lay9 J D (putB (l.map ChV.m)) (wholeB (nl.map RwV.m)))) := by
  have hll : l.length ≤ 1048572 := by have := wl_len (l.map ChV.m); rw [List.length_map] at this; omega
  have hnl : nl.length ≤ 1048572 := by have := wt_len (nl.map RwV.m); rw [List.length_map] at this; omega
  have hbl := put_wl (l.map ChV.m)
  have hwl := wholeB_len (nl.map RwV.m)
  unfold LaidP
  refine Ctr.intro Tryz.func47 rfl Tryz.ntmps47 rfl fun x w hp => ?_
  obtain ⟨hp1, hp2⟩ := hp
  refine wk ?_
  refine CX.callA (bput_c l (by omega) (fun _ => by omega) la lc) ?_ (hpre := by exact ch_ex (by first | exact pickA | exact updA) hp1)
  rintro _ _ ⟨hput, -⟩
  obtain ⟨q1, k1, rfl, rfl⟩ := hput hm
  refine wk ?_
  refine CX.callA (japp_c p d J (by omega) g.js.may D g.wf (by omega) (putB (l.map ChV.m)) (by omega) (some ⟨q1, 0, none⟩) k1 (fun h => by cases h)) ?_ (hpre := by exact rdx_own (by first | exact pickA | exact updA) rfl)
  rintro _ _ ⟨rfl, rfl, hw1⟩
  rcases app_turn g n2 (b := putB (l.map ChV.m)) (by omega) with ⟨h1, h2⟩ | ⟨h1, h2⟩
  rotate_left
  · have hlay : lay9 J D (putB (l.map ChV.m)) (wholeB (nl.map RwV.m)) = appendM J D (putB (l.map ChV.m)) := by
      unfold lay9; rw [if_neg (by have := h2.ne10; omega)]
    rw [hlay]
    rcases h2.ne10 with e | e
    · generalize appendM J D (putB (l.map ChV.m)) = q at *
      obtain ⟨r, J', D'⟩ := q
      dsimp only at e hw1 ⊢
      subst e
      refine CX.callA (wrap_c _ 0) ?_
      rintro _ _ (⟨-, rfl, rfl⟩ | ⟨h, -⟩)
      rotate_left
      · exact absurd rfl h
      refine wk ?_
      refine CX.callA (full_c 0 _ _ (.inl ⟨rfl, rfl, rfl⟩)) ?_
      rw [decide_eq_false (by decide)]
      rintro _ _ ⟨rfl, rfl⟩
      refine wk ?_
      (apply CQ.end1; (· rfl); (· exact .tmp rfl))
      · exact ⟨[], .inl ⟨rfl, rfl, rfl⟩, rfl, hw1⟩
      · exact selA
    · generalize appendM J D (putB (l.map ChV.m)) = q at *
      obtain ⟨r, J', D'⟩ := q
      dsimp only at e hw1 ⊢
      subst e
      refine CX.callA (wrap_c _ 9) ?_
      rintro _ _ (⟨h, -⟩ | ⟨-, be, se, rfl, rfl⟩)
      · exact absurd h (by decide)
      refine wk ?_
      refine CX.callA (full_c 9 _ _ (.inr ⟨by decide, be, se, rfl, rfl⟩)) ?_
      rw [decide_eq_false (by decide)]
      rintro _ _ ⟨rfl, rfl⟩
      refine wk ?_
      (apply CQ.end1; (· rfl); (· exact .tmp rfl))
      · exact ⟨_, .inr ⟨by decide, be, se, rfl, rfl⟩, rfl, hw1⟩
      · exact selA
  have hlay : lay9 J D (putB (l.map ChV.m)) (wholeB (nl.map RwV.m)) = replaceM J D (wholeB (nl.map RwV.m)) := by
    unfold lay9; rw [if_pos (by rw [h1])]
  rw [hlay]
  rw [h1] at hw1 ⊢
  dsimp only at hw1 ⊢
  refine CX.callA (wrap_c _ 10) ?_
  rintro _ _ (⟨h, -⟩ | ⟨-, be, se, rfl, rfl⟩)
  · exact absurd h (by decide)
  refine wk ?_
  refine CX.callA (full_c 10 _ _ (.inr ⟨by decide, be, se, rfl, rfl⟩)) ?_
  rw [decide_eq_true (by decide)]
  rintro _ _ ⟨rfl, rfl⟩
  refine wk ?_
  refine CX.callA (whole_c nl (by omega) na nc hnc) ?_ (hpre := by exact rw_ex (by first | exact pickA | exact updA) hp2)
  rintro _ _ ⟨-, hwh⟩
  obtain ⟨a3, c3, l3, hm3, rfl, rfl, hn3, hc3, hl3⟩ := hwh ⟨may_nil, hr⟩
  rw [List.map_nil] at hm3
  have hl3' : l3.length ≤ 1048572 := by simp only [List.length_nil] at hl3; omega
  refine wk ?_
  refine CX.callA (bput_c l3 (by omega) (fun _ => by rw [hm3]; show (wholeB (nl.map RwV.m)).length ≤ _; omega) a3 c3) ?_ (hpre := by exact ch_chs (by first | exact pickA | exact updA))
  rintro _ _ ⟨hput3, -⟩
  obtain ⟨q4, k4, rfl, rfl⟩ := hput3 (by rw [hm3]; exact whole_may hr)
  rw [hm3]
  rw [show putB (betweenM [] (nl.map RwV.m)) = wholeB (nl.map RwV.m) from rfl]
  refine wk ?_
  refine CX.callA (jrep_c p d J (by omega) g.js.may D g.wf (by omega) (wholeB (nl.map RwV.m)) (by omega) (some ⟨q4, 0, none⟩) k4 (fun h => by cases h)) ?_ (hpre := by exact rdx_own (by first | exact pickA | exact updA) rfl)
  rintro _ _ ⟨rfl, rfl, hw4⟩
  have hcases : (replaceM J D (wholeB (nl.map RwV.m))).1 = 10 ∨ (replaceM J D (wholeB (nl.map RwV.m))).1 = 0 ∨ (replaceM J D (wholeB (nl.map RwV.m))).1 = 9 := by
    rcases rep_turn g n2 (b := wholeB (nl.map RwV.m)) (by omega) with ⟨h, -⟩ | ⟨-, h⟩
    · exact .inl (by rw [h])
    · exact .inr h.ne10
  generalize replaceM J D (wholeB (nl.map RwV.m)) = q at *
  obtain ⟨r, J', D'⟩ := q
  dsimp only at hcases hw4 ⊢
  rcases hcases with rfl | rfl | rfl
  · refine CX.callA (wrap_c _ 10) ?_
    rintro _ _ (⟨h, -⟩ | ⟨-, be2, se2, rfl, rfl⟩)
    · exact absurd h (by decide)
    refine wk ?_
    refine CX.callA (full_c 10 _ _ (.inr ⟨by decide, be2, se2, rfl, rfl⟩)) ?_
    rw [decide_eq_true (by decide)]
    rintro _ _ ⟨rfl, rfl⟩
    refine wk ?_
    refine CX.callA (wrap_c _ 10) ?_
    rintro _ _ (⟨h, -⟩ | ⟨-, be3, se3, rfl, rfl⟩)
    · exact absurd h (by decide)
    refine wk ?_
    (apply CQ.end1; (· rfl); (· exact .tmp rfl))
    · exact ⟨_, .inr ⟨by decide, be3, se3, rfl, rfl⟩, rfl, hw4⟩
    · exact selA
  · refine CX.callA (wrap_c _ 0) ?_
    rintro _ _ (⟨-, rfl, rfl⟩ | ⟨h, -⟩)
    rotate_left
    · exact absurd rfl h
    refine wk ?_
    refine CX.callA (full_c 0 _ _ (.inl ⟨rfl, rfl, rfl⟩)) ?_
    rw [decide_eq_false (by decide)]
    rintro _ _ ⟨rfl, rfl⟩
    refine wk ?_
    (apply CQ.end1; (· rfl); (· exact .tmp rfl))
    · exact ⟨[], .inl ⟨rfl, rfl, rfl⟩, rfl, hw4⟩
    · exact selA
  · refine CX.callA (wrap_c _ 9) ?_
    rintro _ _ (⟨h, -⟩ | ⟨-, be2, se2, rfl, rfl⟩)
    · exact absurd h (by decide)
    refine wk ?_
    refine CX.callA (full_c 9 _ _ (.inr ⟨by decide, be2, se2, rfl, rfl⟩)) ?_
    rw [decide_eq_false (by decide)]
    rintro _ _ ⟨rfl, rfl⟩
    refine wk ?_
    (apply CQ.end1; (· rfl); (· exact .tmp rfl))
    · exact ⟨_, .inr ⟨by decide, be2, se2, rfl, rfl⟩, rfl, hw4⟩
    · exact selA
theorem scommit_nil (v : Value) : Ctr Tryz.prog 13 [.pointer none, v] [] (fun _ => True) (fun v M => v = .int .i64 1 ∧ M = []) := by
  refine Ctr.intro Tryz.func13 rfl Tryz.ntmps13 rfl fun x w hp => ?_
  refine wk ?_
  refine CX.callA (stnone0_c) ?_
  rintro _ _ ⟨rfl, rfl⟩
  refine wk ?_
  ((apply CQ.end1; (· rfl); (· exact .tmp rfl)); (· exact ⟨rfl, rfl⟩); (· exact selA))
theorem scommit_zero (s : Nat) (u v : Value) : Ctr Tryz.prog 13 [.pointer (some ⟨s, 0, none⟩), v] [bk s 79 [.pointer none, u]] (fun _ => True) (fun v M => v = .int .i64 1 ∧ M = [bk s 79 [.pointer none, u]]) := by
  refine Ctr.intro Tryz.func13 rfl Tryz.ntmps13 rfl fun x w hp => ?_
  refine wk ?_
  refine CX.callA (stnoneZ_c s u) ?_
  rintro _ _ ⟨rfl, rfl⟩
  refine wk ?_
  ((apply CQ.end1; (· rfl); (· exact .tmp rfl)); (· exact ⟨rfl, rfl⟩); (· exact selA))
/-- What Commit leaves. -/
def CommitP (s p d : Nat) (N : Nat) (q : Int × JM × DS × Tab) (v : Value) (M : List Assn) : Prop :=
  ∃ a' c' tl', v = .int .i64 q.1 ∧ M = [bk s 79 (stc p a' (List.length tl') c'), bk p 123 (jrc d q.2.1), disk d q.2.2.1, tabA a' tl'] ∧ tl'.map RwV.m = q.2.2.2 ∧ (a' = none → tl'.length = 0 ∧ c' = 0) ∧ tl'.length ≤ c' ∧ q.2.2.1.wf (N + 2060)
set_option maxHeartbeats 1000000 in
theorem scommit_c (s p d : Nat) {n N : Nat} {D : DS} {J : JM} {bs : List Blk} (g : GoodC n N D J bs) (n2 : J.n ≤ 59) (hN : N < 900000) (l : List ChV) (tl : List RwV) (hr : MayR (tl.map RwV.m)) (hl0 : l.length ≤ 1073741824)
    (hw : MayC (l.map ChV.m) → wt (tl.map RwV.m) + wl (l.map ChV.m) ≤ 1048572) (hw0 : wt (tl.map RwV.m) ≤ 1048572) (la a : Option Addr) (lc c : Nat) (hlc : l.length ≤ lc) (hc : tl.length ≤ c) (hn : a = none → tl.length = 0 ∧ c = 0) :
    Ctr Tryz.prog 13 [.pointer (some ⟨s, 0, none⟩), .slice la l.length lc] [bk s 79 (stc p a tl.length c), bk p 123 (jrc d J), disk d D, tabA a tl] (fun x => chAt la l x ∧ errG x)
      (CommitP s p d N (commitM J D (tl.map RwV.m) (l.map ChV.m))) := by
  have htl : tl.length ≤ 1048572 := by have := wt_len (tl.map RwV.m); rw [List.length_map] at this; omega
  unfold CommitP commitM stc
  refine Ctr.intro Tryz.func13 rfl Tryz.ntmps13 rfl fun x w hp => ?_
  obtain ⟨hp1, hp2⟩ := hp
  refine wk ?_
  refine CX.callA (stnone_c s p (.slice a tl.length c)) ?_
  rintro _ _ ⟨rfl, rfl⟩
  refine wk ?_
  refine CX.callA (mayC_c l (by omega) la lc) ?_ (hpre := by exact ch_ex (by first | exact pickA | exact updA) hp1)
  by_cases hm : MayC (l.map ChV.m)
  rotate_left
  · rw [decide_eq_false hm]
    rintro _ _ ⟨rfl, rfl⟩
    rw [if_pos hm]
    refine wk ?_
    (apply CQ.end1; (· rfl); (· exact .tmp rfl))
    · exact ⟨a, c, tl, rfl, rfl, rfl, hn, hc, wf_up g.wf (by omega)⟩
    · exact selA
  rw [decide_eq_true hm, if_neg (fun h => h hm)]
  rintro _ _ ⟨rfl, rfl⟩
  specialize hw hm
  by_cases h0 : l.length = 0
  · have hl : l = [] := List.eq_nil_of_length_eq_zero h0
    rw [if_pos (by rw [hl]; rfl)]
    refine wk ?_
    (apply CQ.end1; (· rfl); (· exact .tmp rfl))
    · exact ⟨a, c, tl, rfl, rfl, rfl, hn, hc, wf_up g.wf (by omega)⟩
    · exact selA
  rw [if_neg (fun e => h0 (by have := congrArg List.length e; simpa using this))]
  refine wk ?_
  refine CX.callA (apply_c tl l (by omega) (by omega) a la c lc hc hlc) ?_ (hpre := by exact fun y hy => ⟨rw_tab (by first | exact pickA | exact updA) y hy, ch_ex (by first | exact pickA | exact updA) hp1 y hy⟩)
  rintro _ _ ⟨-, happ⟩
  obtain ⟨a9, c9, r9, hm9, rfl, rfl, hn9, hc9, hl9⟩ := happ ⟨hr, hm⟩
  have hwt := wt_apply (tl.map RwV.m) (l.map ChV.m)
  have hmr := apply_may hr hm
  rw [← hm9] at hwt hmr ⊢
  refine wk ?_
  refine CX.callA (slay_c s p d (.slice a tl.length c) g n2 hN l r9 hm hmr (by omega) (by omega) la a9 lc c9 hc9) ?_ (hpre := by exact fun y hy => ⟨ch_ex (by first | exact pickA | exact updA) hp1 y hy, rw_tab (by first | exact pickA | exact updA) y hy⟩)
  unfold LaidP
  generalize lay9 J D (putB (l.map ChV.m)) (wholeB (r9.map RwV.m)) = q
  obtain ⟨r, J', D'⟩ := q
  rintro v M ⟨E, hE, rfl, hwf⟩
  dsimp only at hE hwf ⊢
  have hE0 := hE
  rcases hE with ⟨rfl, rfl, rfl⟩ | ⟨hr0, be, se, rfl, rfl⟩
  · rw [if_pos rfl]
    refine wk ?_
    refine CX.ps (PS.neqIfF Tryz.underlying87) ?_
    refine wk ?_
    (apply CQ.end1; (· rfl); (· exact .tmp rfl))
    · exact ⟨a9, c9, r9, rfl, rfl, rfl, hn9, hc9, hwf⟩
    · exact selA
  · rw [if_neg hr0]
    refine wk ?_
    refine CX.ps (PS.neqIfT Tryz.underlying87) ?_
    refine wk ?_
    refine CX.callA (told_c r _ _ hE0) ?_ (hpre := by exact errG_ex (by first | exact pickA | exact updA) hp2)
    rintro _ _ ⟨rfl, rfl⟩
    refine wk ?_
    (apply CQ.end1; (· rfl); (· exact .tmp rfl))
    · exact ⟨a, c, tl, rfl, rfl, rfl, hn, hc, hwf⟩
    · exact selA
end Go.Proofs.YtlckhaodecdbbaaGreatDoor
/-! Layer 9, plain: how Commit turns out. No program in sight. -/
namespace Go.Cx
theorem commit_none (J : JM) (D : DS) (t : Tab) : commitM J D t [] = (0, J, D, t) := by
  unfold commitM; rw [if_neg (fun h => h ⟨.nil, fun _ h => by cases h⟩), if_pos rfl]
/-- Where the batch, or the whole, found room. -/
def RoomS (n : Nat) (J : JM) (bs : List Blk) (b w : Blk) (bs' : List Blk) : Prop :=
  (bs' = bs ++ [b] ∧ J.h.blocks + (cutB b).length ≤ (n - 2) / 2) ∨ (bs' = [w] ∧ (n - 2) / 2 < J.h.blocks + (cutB b).length ∧ (cutB w).length ≤ (n - 2) / 2)
theorem turn_good {n N M : Nat} {D : DS} {J : JM} {bs bs' : List Blk} {t t' : Tab} {q : Int × JM × DS} (g : GoodS n N D J bs t) (h : TurnS n J D bs bs' q) (hf : foldB bs' = some t') (hl : bs'.length ≤ bs.length + 1) (hw : q.2.2.wf M) :
    (q.1 = 0 ∧ q.2.1.n = J.n + 1 ∧ GoodS n M q.2.2 q.2.1 bs' t' ∧ (D.left = 0 → q.2.2.left = 0)) ∨
    (q.1 = 9 ∧ D.left ≠ 0 ∧ q.2.2.dark = true ∧ ∀ picks, ∃ Jx bx tx, GoodS n M (q.2.2.crash picks) Jx bx tx ∧ Jx.n ≤ J.n + 1 ∧ (tx = t ∨ tx = t')) := by
  have hfew := g.few
  rcases h with ⟨h1, h2, h3, h4, h5, h6⟩ | ⟨h1, h2, h3, h4, h5⟩
  · exact .inl ⟨h1, h2, ⟨⟨hw, h3, h4, h5⟩, hf, by omega⟩, h6⟩
  · refine .inr ⟨h1, h2, h3, fun picks => ?_⟩
    rcases h5 picks with hj | ⟨Jn, hj1, hj2⟩
    · exact ⟨J, bs, t, ⟨out_crash hw h4 picks hj, g.fold, hfew⟩, by omega, .inl rfl⟩
    · exact ⟨Jn, bs', t', ⟨out_crash hw h4 picks hj2, hf, by omega⟩, by omega, .inr rfl⟩
theorem commit_out {n N M : Nat} {D : DS} {J : JM} {bs : List Blk} {t : Tab} (g : GoodS n N D J bs t) (n2 : J.n ≤ 59) {l : List ChM} (hm : MayC l) (h0 : l ≠ []) (hl : wl l ≤ 1048572) (hn : wt (applyM t l) ≤ 1048572) (hw : (commitM J D t l).2.2.1.wf M) :
    (commitM J D t l = (10, J, D, t) ∧ (n - 2) / 2 < J.h.blocks + (cutB (putB l)).length ∧ (n - 2) / 2 < (cutB (wholeB (applyM t l))).length) ∨
    (∃ bs', RoomS n J bs (putB l) (wholeB (applyM t l)) bs' ∧
      ((∃ J' D', commitM J D t l = (0, J', D', applyM t l) ∧ J'.n = J.n + 1 ∧ GoodS n M D' J' bs' (applyM t l) ∧ (D.left = 0 → D'.left = 0)) ∨
       (∃ J' D', commitM J D t l = (9, J', D', t) ∧ D.left ≠ 0 ∧ D'.dark = true ∧ ∀ picks, ∃ Jx bx tx, GoodS n M (D'.crash picks) Jx bx tx ∧ Jx.n ≤ J.n + 1 ∧ (tx = t ∨ tx = applyM t l)))) := by
  have hmn := apply_may g.may hm
  have f1 := fold_put g.fold hm (by omega)
  have f2 := fold_whole hmn (by omega)
  have hq := lay9_out g.g n2 (b := putB l) (w := wholeB (applyM t l)) (by rw [put_wl]; omega) (by rw [wholeB_len]; omega)
  have ec : commitM J D t l = ((lay9 J D (putB l) (wholeB (applyM t l))).1, (lay9 J D (putB l) (wholeB (applyM t l))).2.1, (lay9 J D (putB l) (wholeB (applyM t l))).2.2, if (lay9 J D (putB l) (wholeB (applyM t l))).1 = 0 then applyM t l else t) := by
    unfold commitM; rw [if_neg (fun h => h hm), if_neg h0]
  rw [ec] at hw ⊢
  dsimp only at hw
  generalize lay9 J D (putB l) (wholeB (applyM t l)) = q at *
  obtain ⟨r, J', D'⟩ := q
  have fin : ∀ bs', foldB bs' = some (applyM t l) → bs'.length ≤ bs.length + 1 → TurnS n J D bs bs' (r, J', D') →
      ((∃ J1 D1, (r, J', D', if r = 0 then applyM t l else t) = (0, J1, D1, applyM t l) ∧ J1.n = J.n + 1 ∧ GoodS n M D1 J1 bs' (applyM t l) ∧ (D.left = 0 → D1.left = 0)) ∨
       (∃ J1 D1, (r, J', D', if r = 0 then applyM t l else t) = (9, J1, D1, t) ∧ D.left ≠ 0 ∧ D1.dark = true ∧ ∀ picks, ∃ Jx bx tx, GoodS n M (D1.crash picks) Jx bx tx ∧ Jx.n ≤ J.n + 1 ∧ (tx = t ∨ tx = applyM t l))) := by
    intro bs' hf hb ht
    rcases turn_good g ht hf hb hw with ⟨h1, h2, h3, h4⟩ | ⟨h1, h2, h3, h4⟩
    · dsimp only at h1 h2 h3 h4; subst h1
      exact .inl ⟨J', D', by rw [if_pos rfl], h2, h3, h4⟩
    · dsimp only at h1 h2 h3 h4; subst h1
      exact .inr ⟨J', D', by rw [if_neg (by decide)], h2, h3, h4⟩
  rcases hq with ⟨e, h1, h2⟩ | ⟨h1, h2⟩ | ⟨h1, h2, h3⟩
  · obtain ⟨rfl, e2⟩ := Prod.mk.inj e
    obtain ⟨rfl, rfl⟩ := Prod.mk.inj e2
    exact .inl ⟨by rw [if_neg (show ¬ ((10 : Int) = 0) by decide)], h1, h2⟩
  · exact .inr ⟨_, .inl ⟨rfl, h1⟩, fin _ f1 (by simp) h2⟩
  · exact .inr ⟨_, .inr ⟨rfl, h1, h2⟩, fin _ f2 (by simp) h3⟩
/-- With no cut ahead. -/
theorem commit_go {n N M : Nat} {D : DS} {J : JM} {bs : List Blk} {t : Tab} (g : GoodS n N D J bs t) (hd : D.left = 0) (n2 : J.n ≤ 59) {l : List ChM} (hm : MayC l) (h0 : l ≠ []) (hl : wl l ≤ 1048572) (hn : wt (applyM t l) ≤ 1048572) (hw : (commitM J D t l).2.2.1.wf M) :
    (commitM J D t l = (10, J, D, t) ∧ (n - 2) / 2 < J.h.blocks + (cutB (putB l)).length ∧ (n - 2) / 2 < (cutB (wholeB (applyM t l))).length) ∨
    (∃ bs' J' D', RoomS n J bs (putB l) (wholeB (applyM t l)) bs' ∧ commitM J D t l = (0, J', D', applyM t l) ∧ J'.n = J.n + 1 ∧ GoodS n M D' J' bs' (applyM t l) ∧ D'.left = 0) := by
  rcases commit_out g n2 hm h0 hl hn hw with h | ⟨bs', h1, ⟨J', D', h2, h3, h4, h5⟩ | ⟨J', D', h2, h3, -⟩⟩
  · exact .inl h
  · exact .inr ⟨bs', J', D', h1, h2, h3, h4, h5 hd⟩
  · exact absurd hd h3
theorem GoodS.blocks {n N : Nat} {D : DS} {J : JM} {bs : List Blk} {t : Tab} (g : GoodS n N D J bs t) : J.h.blocks = (Cut bs).length := g.g.js.blocks
end Go.Cx
/-! The statements' own doings of layer 9 (lives), and StoreNil, in the program. -/
namespace Go.Cx
def l9a : List ChM := [⟨[97], [7], false⟩]
theorem l9a_may : MayC l9a := by decide
theorem l9a_app : applyM [] l9a = [([97], [7])] := by simp [applyM, l9a]
theorem l9a_put : (cutB (putB l9a)).length = 1 := by rw [cut_len, show (putB l9a).length = 15 from by decide]
theorem l9b_may (Z : Blk) (hZ : Z.length = 5000) : MayC [⟨[98], Z, false⟩] := ⟨.cons (fun _ h => by cases h) .nil, fun c hc => by
  rw [List.mem_singleton.1 hc]; exact ⟨by show 1 ≤ 1; decide, by show 1 ≤ 16; decide, by show Z.length ≤ _; omega, fun h => by cases h⟩⟩
theorem l9b_app (Z : Blk) : applyM [([97], [7])] [⟨[98], Z, false⟩] = [([97], [7]), ([98], Z)] := by
  have h : klt [97] [98] = true := by decide
  simp [applyM, h]
theorem l9b_wl (Z : Blk) : wl [⟨[98], Z, false⟩] = 10 + Z.length := by
  rw [wl_cons, ← chB_lo]
  simp [wl]
  omega
end Go.Cx
namespace Go.Proofs.YtlckhaodecdbbaaGreatDoor
open Go.Cx
attribute [local irreducible] Go.Cx.CX Go.Cx.CC Go.Cx.CQ Go.Cx.PS Go.Cx.Ctr Go.Cx.CH
set_option maxRecDepth 10000
set_option maxHeartbeats 1000000 in
theorem lives9_c : Ctr Tryz.prog 18 [] [] errG (fun v M => v = .bool true ∧ M = []) := by
  refine Ctr.intro Tryz.func18 rfl Tryz.ntmps18 rfl fun x w hp => ?_
  refine wk ?_
  refine CX.callA (new_c 66) ?_
  rintro _ _ (⟨-, -, d, rfl, rfl⟩ | ⟨h, -, -⟩)
  rotate_left
  · omega
  refine wk ?_
  refine CX.callA (smake_new d 66 (by decide) (by decide)) ?_
  rintro _ _ ⟨s, p, D1, rfl, rfl, g1, hd1⟩
  refine wk ?_
  refine CX.callA (scommit_c s p d g1.g (by decide) (by decide) [] [] g1.may (by decide) (fun _ => by decide) (by decide) none none 0 0 (Nat.le_refl _) (Nat.le_refl _) (fun _ => ⟨rfl, rfl⟩)) ?_ (hpre := by exact fun y hy => ⟨⟨.inl rfl, fun _ h => by cases h⟩, errG_ex (by first | exact pickA | exact updA) hp y hy⟩)
  rw [show commitM ⟨1, HdM.z⟩ D1 (List.map RwV.m []) (List.map ChV.m []) = (0, ⟨1, HdM.z⟩, D1, []) from commit_none _ _ _]
  unfold CommitP
  rintro _ _ ⟨a2, c2, tl2, rfl, rfl, ht2, hn2, hc2, -⟩
  have htl2 : tl2 = [] := List.map_eq_nil_iff.1 ht2
  subst htl2
  refine wk ?_
  refine CX.buildSl (parts := [(0, _)]) (vs := [(0, .int .u8 7)]) (out := cb [7]) rfl rfl (by decide) (by simp [fillL, Value.cells, setL]; rfl) fun q1 => ?_
  refine CX.ps (PS.build (vs := [(0, sv [97]), (1, .slice (some ⟨q1, 0, none⟩) 1 1)]) (out := [sv [97], .slice (some ⟨q1, 0, none⟩) 1 1, .bool false]) rfl rfl rfl) ?_
  refine CX.buildSl (parts := [(0, _)]) (vs := [(0, .agg #[sv [97], .slice (some ⟨q1, 0, none⟩) 1 1, .bool false])]) (out := rows ChV.cells [⟨[97], ⟨some ⟨q1, 0, none⟩, [7], 1⟩, false⟩]) rfl rfl (by decide) (by simp [fillL, Value.cells, setL]; rfl) fun q2 => ?_
  refine CX.callA (scommit_c s p d g1.g (by decide) (by decide) [⟨[97], ⟨some ⟨q1, 0, none⟩, [7], 1⟩, false⟩] [] g1.may (by show 1 ≤ 1073741824; decide) (fun _ => by show wt [] + wl l9a ≤ 1048572; decide) (by decide) (some ⟨q2, 0, none⟩) a2 1 c2 (Nat.le_refl _) hc2 hn2) ?_ (hpre := by exact fun y hy => ⟨ch_bk (b := q2) (t := 68) (by first | exact pickA | exact updA) (fun y hy => okC1 (slb_bk (b := q1) (t := 5) (B := [7]) (by first | exact pickA | exact updA) (by decide) y hy)) y hy, errG_ex (by first | exact pickA | exact updA) hp y hy⟩)
  rw [show List.map RwV.m ([] : List RwV) = [] from rfl, show List.map ChV.m [⟨[97], ⟨some ⟨q1, 0, none⟩, [7], 1⟩, false⟩] = l9a from rfl]
  unfold CommitP
  rintro _ _ ⟨a3, c3, tl3, rfl, rfl, ht3, hn3, hc3, hw3⟩
  rcases commit_go g1 hd1 (by decide) l9a_may (by simp [l9a]) (by decide) (by rw [l9a_app]; decide) hw3 with ⟨-, h, -⟩ | ⟨bs3, J3, D3, hrm3, he3, hJ3, g3, hd3⟩
  · rw [l9a_put] at h
    have : (HdM.z).blocks = 0 := rfl
    dsimp only at h
    omega
  have hb3 : J3.h.blocks = 1 := by
    rw [g3.blocks]
    rcases hrm3 with ⟨rfl, -⟩ | ⟨-, h, -⟩
    · rw [List.nil_append, Cut_one]; exact l9a_put
    · rw [l9a_put] at h
      have : (HdM.z).blocks = 0 := rfl
      dsimp only at h
      omega
  rw [he3] at ht3 hw3 ⊢
  dsimp only at ht3 hw3 hJ3 ⊢
  rw [l9a_app] at ht3 g3
  have hl3 : tl3.length = 1 := by have := congrArg List.length ht3; simpa using this
  refine wk ?_
  (refine CX.makeB (5000) (by decide) ?_; intro q4)
  obtain ⟨Z, hZl, hZ⟩ : ∃ Z : Blk, Z.length = 5000 ∧ Z = List.replicate 5000 0 := ⟨_, List.length_replicate, rfl⟩
  rw [← hZ]
  clear hZ
  refine wk ?_
  refine CX.ps (PS.build (vs := [(0, sv [98]), (1, .slice (some ⟨q4, 0, none⟩) 5000 5000)]) (out := [sv [98], .slice (some ⟨q4, 0, none⟩) 5000 5000, .bool false]) rfl rfl rfl) ?_
  refine CX.buildSl (parts := [(0, _)]) (vs := [(0, .agg #[sv [98], .slice (some ⟨q4, 0, none⟩) 5000 5000, .bool false])]) (out := rows ChV.cells [⟨[98], ⟨some ⟨q4, 0, none⟩, Z, 5000⟩, false⟩]) rfl rfl (by decide) (by simp [fillL, Value.cells, setL, rows, ChV.cells, hZl]) fun q5 => ?_
  have hwl : wl (List.map ChV.m [⟨[98], ⟨some ⟨q4, 0, none⟩, Z, 5000⟩, false⟩]) = 5010 := by show wl [⟨[98], Z, false⟩] = 5010; rw [l9b_wl, hZl]
  refine CX.callA (scommit_c s p d g3.g (by omega) (by decide) [⟨[98], ⟨some ⟨q4, 0, none⟩, Z, 5000⟩, false⟩] tl3 (by rw [ht3]; exact g3.may) (by show 1 ≤ 1073741824; decide) (fun _ => by rw [hwl, ht3]; decide) (by rw [ht3]; decide) (some ⟨q5, 0, none⟩) a3 1 c3 (Nat.le_refl _) hc3 hn3) ?_ (hpre := by exact fun y hy => ⟨ch_bk (b := q5) (t := 68) (by first | exact pickA | exact updA) (fun y hy => okC1 (own_SlB (e := 5) (by rw [hZl]; exact Pick.ok (show Pick (own 5 1 (some ⟨q4, 0, none⟩) 5000 5000 (cb Z)) _ _ from by first | exact pickA | exact updA) hy))) y hy, errG_ex (by first | exact pickA | exact updA) hp y hy⟩)
  rw [ht3, show List.map ChV.m [⟨[98], ⟨some ⟨q4, 0, none⟩, Z, 5000⟩, false⟩] = [⟨[98], Z, false⟩] from rfl]
  rw [show List.map ChV.m [⟨[98], ⟨some ⟨q4, 0, none⟩, Z, 5000⟩, false⟩] = [⟨[98], Z, false⟩] from rfl] at hwl
  have hwt : wt (applyM [([97], [7])] [⟨[98], Z, false⟩]) = 5021 := by rw [l9b_app]; simp only [wt, hZl]; decide
  unfold CommitP
  rintro _ _ ⟨a6, c6, tl6, rfl, rfl, ht6, hn6, hc6, hw6⟩
  rcases commit_go g3 hd3 (by omega) (l9b_may Z hZl) (by simp) (by omega) (by omega) hw6 with ⟨he6, -, -⟩ | ⟨bs6, J6, D6, hrm6, -⟩
  rotate_left
  · exfalso
    rcases hrm6 with ⟨-, h⟩ | ⟨-, -, h⟩
    · rw [cut_len, put_wl, hwl] at h; omega
    · rw [wholeB_cut, hwt] at h; omega
  rw [he6] at ht6 ⊢
  dsimp only at ht6 ⊢
  have hl6 : tl6.length = 1 := by have := congrArg List.length ht6; simpa using this
  refine wk ?_
  refine CX.callA (svalue_c s p a6 tl6 c6 (by omega) (by rw [ht6]; exact g3.may) [97]) ?_
  rintro _ _ ⟨a7, B7, c7, d7, rfl, rfl, hv7, hv7'⟩
  have hval : val (tl6.map RwV.m) [97] = some [7] := by rw [ht6]; rfl
  have hd7 : d7 = true := by
    cases d7 with
    | true => rfl
    | false => rw [hval] at hv7'; cases (hv7' rfl).1
  subst hd7
  refine CX.turn (own 5 1 a7 B7.length c7 (cb B7)) (fun h s => ownF_own h s) ?_
  obtain rfl : B7 = [7] := by have := hv7 rfl; rw [hval] at this; exact (Option.some.inj this).symm
  refine wk ?_
  refine CX.callA (sopen_go d g3 (by decide)) ?_
  rintro _ _ ⟨s8, p8, a8, tl8, c8, rfl, rfl, ht8, hn8, hc8⟩
  have hl8 : tl8.length = 1 := by have := congrArg List.length ht8; simpa using this
  refine wk ?_
  refine CX.buildSl (parts := [(0, _)]) (vs := [(0, .int .u8 7)]) (out := cb [7]) rfl rfl (by decide) (by simp [fillL, Value.cells, setL]; rfl) fun q9 => ?_
  refine CX.callA (same_c [7] [7] a7 (some ⟨q9, 0, none⟩) c7 1) ?_ (hpre := by exact fun y hy => ⟨rdx_own (e := 5) (n := List.length [7]) (a := a7) (by first | exact pickA | exact updA) rfl y hy, bk_rdx (b := q9) (t := 5) (by first | exact pickA | exact updA) rfl y hy⟩)
  rw [decide_eq_true rfl]
  rintro _ _ ⟨rfl, rfl⟩
  refine wk ?_
  refine CX.callA (sroom_c s p d (.slice a6 tl6.length c6) g3.g) ?_
  rw [hb3]
  rintro _ _ ⟨rfl, rfl⟩
  refine wk ?_
  refine CX.callA (srows_c s8 p8 a8 tl8 c8 (by omega) hn8 (fun r hr => by have := (g3.may.2 r.m (by rw [← ht8]; exact List.mem_map_of_mem hr)).2.2; exact Nat.le_trans this (by decide))) ?_
  rintro _ _ ⟨a10, c10, l10, rfl, rfl, hm10⟩
  refine wk ?_
  refine CX.buildSl (parts := [(0, _)]) (vs := [(0, .int .u8 7)]) (out := cb [7]) rfl rfl (by decide) (by simp [fillL, Value.cells, setL]; rfl) fun q11 => ?_
  refine CX.ps (PS.build (vs := [(0, sv [97]), (1, .slice (some ⟨q11, 0, none⟩) 1 1)]) (out := [sv [97], .slice (some ⟨q11, 0, none⟩) 1 1]) rfl rfl rfl) ?_
  refine CX.buildSl (parts := [(0, _)]) (vs := [(0, .agg #[sv [97], .slice (some ⟨q11, 0, none⟩) 1 1])]) (out := rows RwV.cells [⟨[97], ⟨some ⟨q11, 0, none⟩, [7], 1⟩⟩]) rfl rfl (by decide) (by simp [fillL, Value.cells, setL]; rfl) fun q12 => ?_
  refine CX.turn (valR l10) vl_val ?_
  refine CX.merge (tabA a10 l10) (fun k s t => own_tab (e := 71) k s t) ?_ (p := by first | exact pickA | exact updA) (q := by first | exact pickA | exact updA)
  have hl10 : l10.length = 1 := by have := congrArg List.length hm10; simp only [List.length_map] at this; omega
  refine CX.callA (eqmR_c l10 [⟨[97], ⟨some ⟨q11, 0, none⟩, [7], 1⟩⟩] (by omega) a10 (some ⟨q12, 0, none⟩) c10 1 (by show 1 ≤ 9223372036854775806; decide)) ?_ (hpre := by exact fun y hy => ⟨rw_tab (by first | exact pickA | exact updA) y hy, rw_bk (b := q12) (t := 71) (by first | exact pickA | exact updA) (fun y hy => okR1 (slb_bk (b := q11) (t := 5) (B := [7]) (by first | exact pickA | exact updA) (by decide) y hy)) y hy⟩)
  rw [decide_eq_true (show l10.map RwV.m = List.map RwV.m [⟨[97], ⟨some ⟨q11, 0, none⟩, [7], 1⟩⟩] from hm10.trans ht8)]
  rintro _ _ ⟨rfl, rfl⟩
  refine wk ?_
  ((apply CQ.end1; (· rfl); (· exact .tmp rfl)); (· exact ⟨rfl, rfl⟩); (· exact selA))
end Go.Proofs.YtlckhaodecdbbaaGreatDoor
/-! The statement StoreNil, in the program. -/
namespace Go.Proofs.YtlckhaodecdbbaaGreatDoor
open Go.Cx
attribute [local irreducible] Go.Cx.CX Go.Cx.CC Go.Cx.CQ Go.Cx.PS Go.Cx.Ctr Go.Cx.CH
set_option maxRecDepth 10000
def snres (z : Option Nat) : List Assn := match z with | none => [] | some s => [bk s 79 [.pointer none, .slice none 0 0]]
theorem snoneN_c (z : Option Nat) : Ctr Tryz.prog 44 [nptr z] (snres z) (fun _ => True) (fun v M => v = .bool true ∧ M = snres z) := by
  cases z with
  | none => exact stnone0_c
  | some s => exact stnoneZ_c s _
theorem smakeN_c (z : Option Nat) : Ctr Tryz.prog 9 [nptr z] (nres z) (fun _ => True) (fun v M => v = .tuple #[.pointer none, .int .i64 1] ∧ M = nres z) := by
  cases z with
  | none =>
    simp only [nres, nptr, Option.map]
    refine Ctr.intro Tryz.func9 rfl Tryz.ntmps9 rfl fun x w hp => ?_
    refine wk ?_
    (have cc := jmakeN_c none; simp only [nres, nptr, Option.map] at cc; refine CX.callA cc ?_; clear cc; rintro _ _ ⟨rfl, rfl⟩)
    refine wk ?_
    ((apply CQ.end2; (· rfl); (· exact .tmp rfl); (· exact .tmp rfl)); (· exact ⟨rfl, rfl⟩); (· exact selA))
  | some p =>
    simp only [nres, nptr, Option.map]
    refine Ctr.intro Tryz.func9 rfl Tryz.ntmps9 rfl fun x w hp => ?_
    refine wk ?_
    (have cc := jmakeN_c (some p); simp only [nres, nptr, Option.map] at cc; refine CX.callA cc ?_; clear cc; rintro _ _ ⟨rfl, rfl⟩)
    refine wk ?_
    ((apply CQ.end2; (· rfl); (· exact .tmp rfl); (· exact .tmp rfl)); (· exact ⟨rfl, rfl⟩); (· exact selA))
theorem sopenN_c (z : Option Nat) : Ctr Tryz.prog 15 [nptr z] (nres z) (fun _ => True) (fun v M => v = .tuple #[.pointer none, .int .i64 1] ∧ M = nres z) := by
  cases z with
  | none =>
    simp only [nres, nptr, Option.map]
    refine Ctr.intro Tryz.func15 rfl Tryz.ntmps15 rfl fun x w hp => ?_
    refine wk ?_
    (have cc := jopenN_c none; simp only [nres, nptr, Option.map] at cc; refine CX.callA cc ?_; clear cc; rintro _ _ ⟨rfl, rfl⟩)
    refine wk ?_
    ((apply CQ.end2; (· rfl); (· exact .tmp rfl); (· exact .tmp rfl)); (· exact ⟨rfl, rfl⟩); (· exact selA))
  | some p =>
    simp only [nres, nptr, Option.map]
    refine Ctr.intro Tryz.func15 rfl Tryz.ntmps15 rfl fun x w hp => ?_
    refine wk ?_
    (have cc := jopenN_c (some p); simp only [nres, nptr, Option.map] at cc; refine CX.callA cc ?_; clear cc; rintro _ _ ⟨rfl, rfl⟩)
    refine wk ?_
    ((apply CQ.end2; (· rfl); (· exact .tmp rfl); (· exact .tmp rfl)); (· exact ⟨rfl, rfl⟩); (· exact selA))
theorem srowsN_c (z : Option Nat) : Ctr Tryz.prog 17 [nptr z] (snres z) (fun _ => True) (fun v M => v = .slice none 0 0 ∧ M = snres z) := by
  cases z with
  | none => exact srows_nil
  | some s =>
    simp only [snres, nptr, Option.map]
    refine Ctr.intro Tryz.func17 rfl Tryz.ntmps17 rfl fun x w hp => ?_
    refine wk ?_
    (have cc := snoneN_c (some s); simp only [snres, nptr, Option.map] at cc; refine CX.callA cc ?_; clear cc; rintro _ _ ⟨rfl, rfl⟩)
    refine wk ?_
    ((apply CQ.end1; (· rfl); (· exact .tmp rfl)); (· exact ⟨rfl, rfl⟩); (· exact selA))
theorem svalueN_c (z : Option Nat) (k : Value) : Ctr Tryz.prog 26 [nptr z, k] (snres z) (fun _ => True) (fun v M => v = .tuple #[.slice none 0 0, .bool false] ∧ M = snres z) := by
  cases z with
  | none =>
    simp only [snres, nptr, Option.map]
    refine Ctr.intro Tryz.func26 rfl Tryz.ntmps26 rfl fun x w hp => ?_
    refine wk ?_
    (have cc := snoneN_c none; simp only [snres, nptr, Option.map] at cc; refine CX.callA cc ?_; clear cc; rintro _ _ ⟨rfl, rfl⟩)
    refine wk ?_
    ((apply CQ.end2; (· rfl); (· exact .tmp rfl); (· exact .tmp rfl)); (· exact ⟨rfl, rfl⟩); (· exact selA))
  | some s =>
    simp only [snres, nptr, Option.map]
    refine Ctr.intro Tryz.func26 rfl Tryz.ntmps26 rfl fun x w hp => ?_
    refine wk ?_
    (have cc := snoneN_c (some s); simp only [snres, nptr, Option.map] at cc; refine CX.callA cc ?_; clear cc; rintro _ _ ⟨rfl, rfl⟩)
    refine wk ?_
    ((apply CQ.end2; (· rfl); (· exact .tmp rfl); (· exact .tmp rfl)); (· exact ⟨rfl, rfl⟩); (· exact selA))
theorem sroomN_c (z : Option Nat) : Ctr Tryz.prog 29 [nptr z] (snres z) (fun _ => True) (fun v M => v = .int .i64 0 ∧ M = snres z) := by
  cases z with
  | none =>
    simp only [snres, nptr, Option.map]
    refine Ctr.intro Tryz.func29 rfl Tryz.ntmps29 rfl fun x w hp => ?_
    refine wk ?_
    (have cc := snoneN_c none; simp only [snres, nptr, Option.map] at cc; refine CX.callA cc ?_; clear cc; rintro _ _ ⟨rfl, rfl⟩)
    refine wk ?_
    ((apply CQ.end1; (· rfl); (· exact .tmp rfl)); (· exact ⟨rfl, rfl⟩); (· exact selA))
  | some s =>
    simp only [snres, nptr, Option.map]
    refine Ctr.intro Tryz.func29 rfl Tryz.ntmps29 rfl fun x w hp => ?_
    refine wk ?_
    (have cc := snoneN_c (some s); simp only [snres, nptr, Option.map] at cc; refine CX.callA cc ?_; clear cc; rintro _ _ ⟨rfl, rfl⟩)
    refine wk ?_
    ((apply CQ.end1; (· rfl); (· exact .tmp rfl)); (· exact ⟨rfl, rfl⟩); (· exact selA))
theorem scommitN_c (z : Option Nat) (v : Value) : Ctr Tryz.prog 13 [nptr z, v] (snres z) (fun _ => True) (fun v M => v = .int .i64 1 ∧ M = snres z) := by
  cases z with
  | none => exact scommit_nil v
  | some s => exact scommit_zero s _ v
theorem nil9_c (u k : Value) (zero : Bool) : Ctr Tryz.prog 7 [u, k, .bool zero] [] errG (fun v M => v = .bool true ∧ M = []) := by
  cases zero with
  | false =>
    refine Ctr.intro Tryz.func7 rfl Tryz.ntmps7 rfl fun x w hp => ?_
    refine wk ?_
    (have cc := smakeN_c none; simp only [nres, nptr, Option.map] at cc; refine CX.callA cc ?_; clear cc; rintro _ _ ⟨rfl, rfl⟩)
    refine wk ?_
    (have cc := sopenN_c none; simp only [nres, nptr, Option.map] at cc; refine CX.callA cc ?_; clear cc; rintro _ _ ⟨rfl, rfl⟩)
    refine wk ?_
    (have cc := svalueN_c none k; simp only [snres, nptr, Option.map] at cc; refine CX.callA cc ?_; clear cc; rintro _ _ ⟨rfl, rfl⟩)
    refine wk ?_
    (have cc := scommitN_c none u; simp only [snres, nptr, Option.map] at cc; refine CX.callA cc ?_; clear cc; rintro _ _ ⟨rfl, rfl⟩)
    refine wk ?_
    (have cc := srowsN_c none; simp only [snres, nptr, Option.map] at cc; refine CX.callA cc ?_; clear cc; rintro _ _ ⟨rfl, rfl⟩)
    refine wk ?_
    (have cc := sroomN_c none; simp only [snres, nptr, Option.map] at cc; refine CX.callA cc ?_; clear cc; rintro _ _ ⟨rfl, rfl⟩)
    refine wk ?_
    refine CX.callA (lives9_c) ?_ (hpre := by exact errG_ex (by first | exact pickA | exact updA) hp)
    rintro _ _ ⟨rfl, rfl⟩
    refine wk ?_
    ((apply CQ.end1; (· rfl); (· exact .tmp rfl)); (· exact ⟨rfl, rfl⟩); (· exact selA))
  | true =>
    refine Ctr.intro Tryz.func7 rfl Tryz.ntmps7 rfl fun x w hp => ?_
    refine wk ?_
    (apply CX.ps; (· apply PS.build (parts := []) (vs := []) (out := [.slice none 0 0, .slice none 0 0, .int .i64 0, .int .i64 0, .bool false]); (· rfl); (· rfl); (· rfl)))
    (refine CX.boxA ?_; intro pd)
    refine wk ?_
    (apply CX.ps; (· apply PS.build (parts := []) (vs := []) (out := [.pointer none, .slice none 0 0]); (· rfl); (· rfl); (· rfl)))
    (refine CX.boxA ?_; intro ps)
    refine wk ?_
    (have cc := smakeN_c (some pd); simp only [nres, nptr, Option.map] at cc; refine CX.callA cc ?_; clear cc; rintro _ _ ⟨rfl, rfl⟩)
    refine wk ?_
    (have cc := sopenN_c (some pd); simp only [nres, nptr, Option.map] at cc; refine CX.callA cc ?_; clear cc; rintro _ _ ⟨rfl, rfl⟩)
    refine wk ?_
    (have cc := svalueN_c (some ps) k; simp only [snres, nptr, Option.map] at cc; refine CX.callA cc ?_; clear cc; rintro _ _ ⟨rfl, rfl⟩)
    refine wk ?_
    (have cc := scommitN_c (some ps) u; simp only [snres, nptr, Option.map] at cc; refine CX.callA cc ?_; clear cc; rintro _ _ ⟨rfl, rfl⟩)
    refine wk ?_
    (have cc := srowsN_c (some ps); simp only [snres, nptr, Option.map] at cc; refine CX.callA cc ?_; clear cc; rintro _ _ ⟨rfl, rfl⟩)
    refine wk ?_
    (have cc := sroomN_c (some ps); simp only [snres, nptr, Option.map] at cc; refine CX.callA cc ?_; clear cc; rintro _ _ ⟨rfl, rfl⟩)
    refine wk ?_
    refine CX.callA (lives9_c) ?_ (hpre := by exact errG_ex (by first | exact pickA | exact updA) hp)
    rintro _ _ ⟨rfl, rfl⟩
    refine wk ?_
    ((apply CQ.end1; (· rfl); (· exact .tmp rfl)); (· exact ⟨rfl, rfl⟩); (· exact selA))
end Go.Proofs.YtlckhaodecdbbaaGreatDoor
/-! The statement StoreFresh, in the program. -/
namespace Go.Cx
theorem may_one (k v : Blk) (hv : v.length ≤ 1048576) : MayC [⟨k, v, false⟩] ↔ 1 ≤ k.length ∧ k.length ≤ 16 := by
  constructor
  · intro h; have := h.2 _ (.head _); exact ⟨this.k1, this.k2⟩
  · intro h
    exact ⟨.cons (fun _ h => by cases h) .nil, fun c hc => by rw [List.mem_singleton.1 hc]; exact ⟨h.1, h.2, hv, fun h => by cases h⟩⟩
theorem app_one (k v : Blk) : applyM [] [⟨k, v, false⟩] = [(k, v)] := by simp [applyM]
theorem wl_one (k v : Blk) : wl [⟨k, v, false⟩] = 9 + k.length + v.length := by
  rw [wl_cons, ← chB_lo]
  simp [wl]
  omega
theorem rdx_ownF {e : TypeId} {a : Option Addr} {B : Blk} {c : Nat} {L L' : List Assn} (p : Pick (ownF e a B c) L L') : ∀ y, Sep L y → rdx a B.length (cb B) y := fun y hy => by
  have := own_rdx (ownF_own y (p.ok hy)) (one_cb _)
  rwa [Nat.mul_one] at this
theorem val_one (k v : Blk) : val [(k, v)] k = some v := by rw [val_cons, if_pos rfl]
end Go.Cx
namespace Go.Proofs.YtlckhaodecdbbaaGreatDoor
open Go.Cx
attribute [local irreducible] Go.Cx.CX Go.Cx.CC Go.Cx.CQ Go.Cx.PS Go.Cx.Ctr Go.Cx.CH
set_option maxRecDepth 10000
theorem wide_SlB {b : Nat} {B : Blk} (h : PH) (s : (own 5 1 (some ⟨b, 0, none⟩) (B.length + 3) (B.length + 3) (cb (wideB B))).ok h) : SlB.ok h ⟨some ⟨b, 0, none⟩, B, B.length + 3⟩ := by
  have := own_take (wide_len B) (m := B.length) (by omega) s
  rw [wide_take] at this
  exact own_SlB this
set_option maxHeartbeats 1000000 in
theorem fresh9_c (key value : Blk) (hk : key.length ≤ 9223372036854775807) (hv : value.length ≤ 140737488351232) (a : Option Addr) (cap : Nat) (y : UInt8) :
    Ctr Tryz.prog 6 [sv key, .slice a value.length cap, .int .u8 (y.toNat : Int)] [] (fun x => rdx a value.length (cb value) x ∧ errG x) (fun v M => v = .bool true ∧ M = []) := by
  refine Ctr.intro Tryz.func6 rfl Tryz.ntmps6 rfl fun x w hp => ?_
  obtain ⟨hp1, hp2⟩ := hp
  refine wk ?_
  refine CX.callA (new_c 400) ?_
  rintro _ _ (⟨-, -, d, rfl, rfl⟩ | ⟨h, -, -⟩)
  rotate_left
  · omega
  refine wk ?_
  refine CX.callA (smake_new d 400 (by decide) (by decide)) ?_
  rintro _ _ ⟨s, p, D1, rfl, rfl, g1, hd1⟩
  refine wk ?_
  refine CX.callA (wide_c value hv a cap) ?_ (hpre := by exact rdx_ex (by first | exact pickA | exact updA) hp1)
  rintro _ _ ⟨wb, rfl, rfl⟩
  by_cases hlong : value.length ≤ 10000
  rotate_left
  · refine wk ?_
    refine CX.callA (lives9_c) ?_ (hpre := by exact errG_ex (by first | exact pickA | exact updA) hp2)
    rintro _ _ ⟨rfl, rfl⟩
    refine wk ?_
    ((apply CQ.end1; (· rfl); (· exact .tmp rfl)); (· exact ⟨rfl, rfl⟩); (· exact selA))
  refine wk ?_
  refine CX.ps (PS.build (vs := [(0, sv key), (1, .slice (some ⟨wb, 0, none⟩) value.length (value.length + 3))]) (out := [sv key, .slice (some ⟨wb, 0, none⟩) value.length (value.length + 3), .bool false]) rfl rfl rfl) ?_
  refine CX.buildSl (parts := [(0, _)]) (vs := [(0, .agg #[sv key, .slice (some ⟨wb, 0, none⟩) value.length (value.length + 3), .bool false])]) (out := rows ChV.cells [⟨key, ⟨some ⟨wb, 0, none⟩, value, value.length + 3⟩, false⟩]) rfl rfl (by decide) (by simp [fillL, Value.cells, setL]; rfl) fun q2 => ?_
  have hwl := wl_one key value
  have hmay := may_one key value (by omega)
  refine CX.callA (scommit_c s p d g1.g (by decide) (by decide) [⟨key, ⟨some ⟨wb, 0, none⟩, value, value.length + 3⟩, false⟩] [] g1.may (by show 1 ≤ 1073741824; decide) (fun h => by have h' := hmay.1 h; show 0 + wl [⟨key, value, false⟩] ≤ 1048572; omega) (by decide) (some ⟨q2, 0, none⟩) none 1 0 (Nat.le_refl _) (Nat.le_refl _) (fun _ => ⟨rfl, rfl⟩)) ?_ (hpre := by exact fun y hy => ⟨ch_bk (b := q2) (t := 68) (by first | exact pickA | exact updA) (fun y hy => okC1 (wide_SlB y (Pick.ok (show Pick (own 5 1 (some ⟨wb, 0, none⟩) (value.length + 3) (value.length + 3) (cb (wideB value))) _ _ from by first | exact pickA | exact updA) hy))) y hy, errG_ex (by first | exact pickA | exact updA) hp2 y hy⟩)
  rw [show List.map RwV.m ([] : List RwV) = [] from rfl, show List.map ChV.m [⟨key, ⟨some ⟨wb, 0, none⟩, value, value.length + 3⟩, false⟩] = [⟨key, value, false⟩] from rfl]
  unfold CommitP
  rintro _ _ ⟨a3, c3, tl3, rfl, rfl, ht3, hn3, hc3, hw3⟩
  by_cases hkey : 1 ≤ key.length ∧ key.length ≤ 16
  rotate_left
  · rw [show commitM ⟨1, HdM.z⟩ D1 [] [⟨key, value, false⟩] = (2, ⟨1, HdM.z⟩, D1, []) from by unfold commitM; rw [if_pos (fun h => hkey (hmay.1 h))]]
    dsimp only
    by_cases h1 : key.length < 1
    · refine wk ?_
      refine CX.ps (PS.lenStr rfl rfl) ?_
      refine wk ?_
      refine CX.callA (lives9_c) ?_ (hpre := by exact errG_ex (by first | exact pickA | exact updA) hp2)
      rintro _ _ ⟨rfl, rfl⟩
      refine wk ?_
      ((apply CQ.end1; (· rfl); (· exact .tmp rfl)); (· exact ⟨rfl, rfl⟩); (· exact selA))
    · have h2 : 16 < key.length := by omega
      refine wk ?_
      refine CX.ps (PS.lenStr rfl rfl) ?_
      refine wk ?_
      refine CX.ps (PS.lenStr rfl rfl) ?_
      refine wk ?_
      refine CX.callA (lives9_c) ?_ (hpre := by exact errG_ex (by first | exact pickA | exact updA) hp2)
      rintro _ _ ⟨rfl, rfl⟩
      refine wk ?_
      ((apply CQ.end1; (· rfl); (· exact .tmp rfl)); (· exact ⟨rfl, rfl⟩); (· exact selA))
  obtain ⟨hk1, hk2⟩ := hkey
  have hwt : wt [(key, value)] = 9 + key.length + value.length := rfl
  rcases commit_go g1 hd1 (by decide) (hmay.2 ⟨hk1, hk2⟩) (by simp) (by omega) (by rw [app_one]; omega) hw3 with ⟨-, h, -⟩ | ⟨bs3, J3, D3, hrm3, he3, hJ3, g3, hd3⟩
  · rw [cut_len, put_wl, hwl] at h
    have : (HdM.z).blocks = 0 := rfl
    dsimp only at h
    omega
  rw [he3] at ht3 hw3 ⊢
  dsimp only at ht3 hw3 hJ3 ⊢
  rw [app_one] at ht3 g3
  have hl3 : tl3.length = 1 := by have := congrArg List.length ht3; simpa using this
  refine wk ?_
  refine CX.ps (PS.lenStr rfl rfl) ?_
  refine wk ?_
  refine CX.ps (PS.lenStr rfl rfl) ?_
  refine wk ?_
  refine CX.callA (left_c value hv wb a cap) ?_ (hpre := by exact rdx_ex (by first | exact pickA | exact updA) hp1)
  rintro _ _ ⟨rfl, rfl⟩
  refine wk ?_
  refine CX.callA (spoil_c (wideB value) value.length (value.length + 3) (some ⟨wb, 0, none⟩) y (wide_len value) (by omega) (fun h => by cases h)) ?_
  rintro _ _ ⟨rfl, rfl⟩
  refine wk ?_
  have hmt : MayR (tl3.map RwV.m) := by rw [ht3]; exact g3.may
  have hval : val (tl3.map RwV.m) key = some value := by rw [ht3]; exact val_one key value
  refine CX.callA (svalue_c s p a3 tl3 c3 (by omega) hmt key) ?_
  rintro _ _ ⟨a7, B7, c7, d7, rfl, rfl, hv7, hv7'⟩
  have hd7 : d7 = true := by
    cases d7 with
    | true => rfl
    | false => rw [hval] at hv7'; cases (hv7' rfl).1
  subst hd7
  obtain rfl : B7 = value := by have := hv7 rfl; rw [hval] at this; exact (Option.some.inj this).symm
  clear hv7 hv7'
  refine wk ?_
  refine CX.callA (same_c B7 B7 a7 a c7 cap) ?_ (hpre := by exact fun y hy => ⟨rdx_ownF (e := 5) (a := a7) (by first | exact pickA | exact updA) y hy, rdx_ex (by first | exact pickA | exact updA) hp1 y hy⟩)
  rw [decide_eq_true rfl]
  rintro _ _ ⟨rfl, rfl⟩
  refine wk ?_
  refine CX.callA (spoilF_c a7 B7 c7 y) ?_
  rintro _ _ ⟨rfl, rfl⟩
  refine wk ?_
  refine CX.callA (srows_c s p a3 tl3 c3 (by omega) hn3 (fun r hr => by have := (hmt.2 r.m (List.mem_map_of_mem hr)).2.2; exact Nat.le_trans this (by decide))) ?_
  rintro _ _ ⟨a10, c10, l10, rfl, rfl, hm10⟩
  have hl10 : l10.length = 1 := by have := congrArg List.length hm10; simp only [List.length_map] at this; omega
  obtain ⟨r, rfl⟩ : ∃ r, l10 = [r] := List.length_eq_one_iff.1 hl10
  refine CX.fact (own_fact (e := 71) (by first | exact pickA | exact updA) (Nat.zero_lt_one)) ?_
  rintro ⟨-, q10, rfl⟩
  rw [show rows RwV.cells [r] = [sv r.key, .slice r.s.a r.s.b.length r.s.c] from rfl, show List.length [r] = 1 from rfl, show vl 5 [r] = [ownF 5 r.s.a r.s.b r.s.c] from rfl]
  refine wk ?_
  refine CC.loop (X := Nat) (fun i => [(18, .int .i64 (i : Int)), (17, .slice (some ⟨q10, 0, none⟩) 1 c10), (9, .pointer (some ⟨s, 0, none⟩)), (0, sv key), (1, .slice a B7.length cap), (2, .int .u8 (y.toNat : Int)), (12, .int .i64 0), (13, .bool true), (16, .bool true)])
    (fun i => [bk s 79 (stc p a3 tl3.length c3), tabA a3 tl3, own 71 2 (some ⟨q10, 0, none⟩) 1 c10 [sv r.key, .slice r.s.a r.s.b.length r.s.c], sepA (if i = 0 then [ownF 5 r.s.a r.s.b r.s.c] else []), exact x]) (fun i => i ≤ 1) (fun i => 1 - i) 0 (Nat.zero_le _) ⟨rfl, rfl, rfl, rfl, rfl, rfl, rfl, rfl, rfl, trivial⟩ (by exact selA) ?_
  intro i hi
  by_cases h0 : i = 0
  · subst h0
    rw [if_pos rfl]
    refine CC.mem (L' := [ownF 5 r.s.a r.s.b r.s.c, bk s 79 (stc p a3 tl3.length c3), tabA a3 tl3, own 71 2 (some ⟨q10, 0, none⟩) 1 c10 [sv r.key, .slice r.s.a r.s.b.length r.s.c], exact x]) (fun h' s' => sepA_one (.tail (.tail (.tail (.head _)))) s') ?_
    refine wk ?_
    (refine CX.index0 (0) ?_ ?_; (· decide))
    refine wk ?_
    (apply CX.ps; (· apply PS.load (v := .slice r.s.a r.s.b.length r.s.c); (· rfl); (· rfl); (· exact CellAt.own (by first | exact pickA | exact updA) rfl)))
    refine wk ?_
    refine CX.callA (spoilF_c r.s.a r.s.b r.s.c y) ?_
    rintro _ _ ⟨rfl, rfl⟩
    refine CX.give (sepA []) (fun k => sepA_ok.2 trivial) ?_
    refine wk ?_
    exact CQ.round (x := 0) 1 (Nat.le_refl _) (by decide) ⟨rfl, rfl, rfl, rfl, rfl, rfl, rfl, rfl, rfl, trivial⟩ (by exact selA)
  · obtain rfl : i = 1 := by omega
    refine wk ?_
    refine CX.callA (svalue_c s p a3 tl3 c3 (by omega) hmt key) ?_
    rintro _ _ ⟨a8, B8, c8, d8, rfl, rfl, hv8, hv8'⟩
    have hd8 : d8 = true := by
      cases d8 with
      | true => rfl
      | false => rw [hval] at hv8'; cases (hv8' rfl).1
    subst hd8
    obtain rfl : B7 = B8 := by have := hv8 rfl; rw [hval] at this; exact (Option.some.inj this)
    refine wk ?_
    refine CX.callA (same_c B7 B7 a8 a c8 cap) ?_ (hpre := by exact fun y hy => ⟨rdx_ownF (e := 5) (a := a8) (by first | exact pickA | exact updA) y hy, rdx_ex (by first | exact pickA | exact updA) hp1 y hy⟩)
    rw [decide_eq_true rfl]
    rintro _ _ ⟨rfl, rfl⟩
    refine wk ?_
    refine CX.callA (lives9_c) ?_ (hpre := by exact errG_ex (by first | exact pickA | exact updA) hp2)
    rintro _ _ ⟨rfl, rfl⟩
    refine wk ?_
    ((apply CQ.end1; (· rfl); (· exact .tmp rfl)); (· exact ⟨rfl, rfl⟩); (· exact selA))
end Go.Proofs.YtlckhaodecdbbaaGreatDoor
/-! What may be read of rows and changes. -/
namespace Go.Cx
section
variable {H : Type} {enc : TypeId × Value → H} {P : Program} {w : World} {base : Nat} {spare : Nat → Bool} {held : Bool}
theorem rec_str {t : TypeId} (ht : P.underlying t = some .string) : Rec enc P w base spare held t (fun b : Blk => b.length ≤ maxLen) (fun b => [sv b]) := fun n cs x h => by
  obtain ⟨s, rfl, _, hs⟩ := DataW.trod_string ht h
  exact ⟨s.data.toList, by simpa using hs, by simp [sv]⟩
theorem rec_boolC {t : TypeId} (ht : P.underlying t = some .bool) : Rec enc P w base spare held t (fun _ : Bool => True) (fun b => [.bool b]) := fun n cs x h => by
  obtain ⟨b, rfl, _⟩ := DataW.trod_bool ht h
  exact ⟨b, trivial, rfl⟩
end
end Go.Cx
namespace Go.Proofs.YtlckhaodecdbbaaGreatDoor
open Go.Cx
theorem rec_chg {H : Type} {enc : TypeId × Value → H} {w : World} {base : Nat} {spare : Nat → Bool} {held : Bool} :
    Rec enc Tryz.prog w base spare held 68 (fun r : ChV => r.s.ok w.ph) ChV.cells := fun n cs x h => by
  obtain ⟨hl, m, hf⟩ := trod_fields Tryz.underlying68 h
  have c1 : Tryz.prog.cellsOf 9 = 1 := by kernel_rfl
  have c2 : Tryz.prog.cellsOf 23 = 1 := by kernel_rfl
  have c3 : Tryz.prog.cellsOf 4 = 1 := by kernel_rfl
  have c4 : Tryz.prog.cellsOf 68 = 3 := by kernel_rfl
  obtain ⟨y0, e0⟩ : ∃ y, DataW.trod enc Tryz.prog w base spare held m 9 ((cs.drop 0).take (Tryz.prog.cellsOf 9)) = some y := hf 0 _ rfl
  rw [c1] at e0
  obtain ⟨y1, e1⟩ : ∃ y, DataW.trod enc Tryz.prog w base spare held m 23 ((cs.drop 1).take (Tryz.prog.cellsOf 23)) = some y := hf 1 _ rfl
  rw [c2] at e1
  obtain ⟨y2, e2⟩ : ∃ y, DataW.trod enc Tryz.prog w base spare held m 4 ((cs.drop 2).take (Tryz.prog.cellsOf 4)) = some y := hf 2 _ rfl
  rw [c3] at e2
  obtain ⟨a, wa, f0⟩ := rec_str Tryz.underlying9 _ _ _ e0
  obtain ⟨b, wb, f1⟩ := rec_bytes Tryz.underlying23 Tryz.underlying5 (by kernel_rfl) _ _ _ e1
  obtain ⟨c, wc, f2⟩ := rec_boolC Tryz.underlying4 _ _ _ e2
  refine ⟨⟨a, b, c⟩, wb, ?_⟩
  have h0 : cs = cs.drop 0 := rfl
  have hend : cs.drop (2 + 1) = [] := List.drop_of_length_le (by rw [hl, c4]; omega)
  rw [h0, drop_part cs 0 1 f0, drop_part cs (0 + 1) 1 f1, drop_part cs (0 + 1 + 1) 1 f2, show 0 + 1 + 1 + 1 = 2 + 1 by omega, hend]
  simp [ChV.cells, SlB.cells]
theorem rec_row {H : Type} {enc : TypeId × Value → H} {w : World} {base : Nat} {spare : Nat → Bool} {held : Bool} :
    Rec enc Tryz.prog w base spare held 71 (fun r : RwV => r.s.ok w.ph) RwV.cells := fun n cs x h => by
  obtain ⟨hl, m, hf⟩ := trod_fields Tryz.underlying71 h
  have c1 : Tryz.prog.cellsOf 9 = 1 := by kernel_rfl
  have c2 : Tryz.prog.cellsOf 23 = 1 := by kernel_rfl
  have c4 : Tryz.prog.cellsOf 71 = 2 := by kernel_rfl
  obtain ⟨y0, e0⟩ : ∃ y, DataW.trod enc Tryz.prog w base spare held m 9 ((cs.drop 0).take (Tryz.prog.cellsOf 9)) = some y := hf 0 _ rfl
  rw [c1] at e0
  obtain ⟨y1, e1⟩ : ∃ y, DataW.trod enc Tryz.prog w base spare held m 23 ((cs.drop 1).take (Tryz.prog.cellsOf 23)) = some y := hf 1 _ rfl
  rw [c2] at e1
  obtain ⟨a, wa, f0⟩ := rec_str Tryz.underlying9 _ _ _ e0
  obtain ⟨b, wb, f1⟩ := rec_bytes Tryz.underlying23 Tryz.underlying5 (by kernel_rfl) _ _ _ e1
  refine ⟨⟨a, b⟩, wb, ?_⟩
  have h0 : cs = cs.drop 0 := rfl
  have hend : cs.drop (1 + 1) = [] := List.drop_of_length_le (by rw [hl, c4]; omega)
  rw [h0, drop_part cs 0 1 f0, drop_part cs (0 + 1) 1 f1, show 0 + 1 + 1 = 1 + 1 by omega, hend]
  simp [RwV.cells, SlB.cells]
end Go.Proofs.YtlckhaodecdbbaaGreatDoor
/-! Lists of changes, and which are too great (layer 9's statements). -/
namespace Go.Cx
structure ChsV where
  a : Option Addr
  l : List ChV
  c : Nat
def ChsV.cells (s : ChsV) : List Value := [.slice s.a s.l.length s.c]
structure ChsV.ok (x : PH) (s : ChsV) : Prop where
  nil : s.a = none → s.l = [] ∧ s.c = 0
  le : s.l.length ≤ s.c
  max : s.c ≤ maxLen
  r : chAt s.a s.l x
theorem ChsV.ok.mono {x y : PH} {s : ChsV} (h : s.ok x) (l : Le x y) : s.ok y := ⟨h.nil, h.le, h.max, chAt_mono h.r l⟩
def clAt (a : Option Addr) (l : List ChsV) (x : PH) : Prop := rdx a (l.length * 1) (rows ChsV.cells l) x ∧ ∀ r ∈ l, r.ok x
theorem cl_len (l : List ChsV) : ∀ y ∈ l, (ChsV.cells y).length = 1 := fun _ _ => rfl
theorem clAt_some {a : Option Addr} {l : List ChsV} {x : PH} (h : clAt a l x) (h0 : 0 < l.length) : ∃ g off, a = some ⟨g, off, none⟩ := rdx_some h.1 (by omega)
theorem clAt.cell {L L' : List Assn} {x : PH} {g off i : Nat} {l : List ChsV} (h : clAt (some ⟨g, off, none⟩) l x) (p : Pick (exact x) L L') (hi : i < l.length) : CellAt L g (off + i * 1) (.slice (l[i]).a (l[i]).l.length (l[i]).c) :=
  fun y hy => by
    obtain ⟨cs, t, fr, e, hc⟩ := CellsAt.row p h.1 (by omega) (cl_len l) hi y hy
    exact ⟨cs, t, fr, e, by simpa using hc 0 _ rfl⟩
def vsum (l : List ChV) : Nat := (l.map fun r => r.s.b.length).sum
theorem vsum_take {l : List ChV} {i : Nat} (h : i < l.length) : vsum (l.take (i + 1)) = vsum (l.take i) + (l[i]).s.b.length := by
  unfold vsum
  rw [List.take_add_one, List.getElem?_eq_getElem h]
  simp only [List.map_append, List.sum_append, Option.toList_some, List.map_cons, List.map_nil, List.sum_cons, List.sum_nil, Nat.add_zero]
theorem vsum_le {l : List ChV} (h : ∀ r ∈ l, r.s.b.length ≤ 1048576) (i : Nat) : vsum (l.take i) ≤ i * 1048576 := by
  induction i with
  | zero => simp [vsum]
  | succ i ih =>
    by_cases hi : i < l.length
    · rw [vsum_take hi]; have := h _ (List.getElem_mem hi); omega
    · have e : l.take (i + 1) = l.take i := (List.take_of_length_le (by omega)).trans (List.take_of_length_le (by omega)).symm
      rw [e]
      exact Nat.le_trans ih (Nat.mul_le_mul_right _ (Nat.le_succ i))
/-- What is not too great. -/
def SmallC (l : List ChV) : Prop := l.length ≤ 200 ∧ ((∀ r ∈ l, r.s.b.length ≤ 1048576) → vsum l ≤ 20000)
theorem SmallC.wl {l : List ChV} (h : SmallC l) (m : MayC (l.map ChV.m)) : Cx.wl (l.map ChV.m) ≤ 25000 := by
  have h1 := wl_small m.2
  rw [List.length_map] at h1
  have h2 : ((l.map ChV.m).map fun c => c.val.length).sum = vsum l := by unfold vsum; rw [List.map_map]; rfl
  have h3 := h.2 fun r hr => (m.2 _ (List.mem_map_of_mem hr)).v
  have := h.1
  omega
end Go.Cx
namespace Go.Proofs.YtlckhaodecdbbaaGreatDoor
open Go.Cx
attribute [local irreducible] Go.Cx.CX Go.Cx.CC Go.Cx.CQ Go.Cx.PS Go.Cx.Ctr Go.Cx.CH
set_option maxRecDepth 10000
theorem great_c (a : Option Addr) (l : List ChV) (c : Nat) (hl : l.length ≤ maxLen) : Ctr Tryz.prog 10 [.slice a l.length c] [] (fun x => chAt a l x) (fun v M => ∃ g : Bool, v = .bool g ∧ M = [] ∧ (g = false → SmallC l)) := by
  have hmx : maxLen = 9223372036854775807 := by decide
  refine Ctr.intro Tryz.func10 rfl Tryz.ntmps10 rfl fun x w hp => ?_
  refine wk ?_
  refine CC.loop (X := Nat × Int) (fun s => [(4, .int .i64 (s.1 : Int)), (3, .int .i64 s.2), (0, .slice a l.length c)]) (fun s => [exact x]) (fun s => s.1 ≤ l.length ∧ ((∀ r ∈ l, r.s.b.length ≤ 1048576) → s.1 ≤ 200 → s.2 = (vsum (l.take s.1) : Nat))) (fun s => l.length - s.1)
    (0, 0) ⟨Nat.zero_le _, fun _ _ => rfl⟩ ⟨rfl, rfl, rfl, trivial⟩ (by exact selA) ?_
  rintro ⟨i, n⟩ ⟨hi, hs⟩
  dsimp only at hi hs ⊢
  by_cases h1 : i < l.length
  · obtain ⟨g, off, rfl⟩ := chAt_some hp (by omega)
    refine wk ?_
    (refine CX.indexA (i) ?_ ?_; (· exact h1))
    refine wk ?_
    (apply CX.ps; (· apply PS.load (v := .slice (l[i]).s.a (l[i]).s.b.length (l[i]).s.c); (· rfl); (· rfl); (· exact hp.cell (by first | exact pickA | exact updA) h1 1 rfl)))
    refine wk ?_
    refine CX.ps (PS.add (z := IntKind.i64.wrap (n + ((l[i]).s.b.length : Int))) rfl rfl rfl rfl) ?_
    refine wk ?_
    exact CQ.round (x := (i, n)) (i + 1, IntKind.i64.wrap (n + ((l[i]).s.b.length : Int))) ⟨h1, fun hb h2 => by
      dsimp only at h2 ⊢
      have h3 := vsum_le hb (i + 1)
      rw [hs hb (by omega), vsum_take h1] at *
      rw [wr_i64 (by omega) (by omega)]
      simp⟩ (by dsimp only; omega) ⟨eqI (by omega), rfl, rfl, trivial⟩ (by exact selA)
  · obtain rfl : i = l.length := by omega
    rw [List.take_length] at hs
    by_cases h2 : 20000 < n
    · refine wk ?_
      (apply CQ.end1; (· rfl); (· exact .tmp rfl))
      · exact ⟨true, rfl, rfl, fun h => by cases h⟩
      · exact selA
    · by_cases h3 : 200 < l.length
      · refine wk ?_
        (apply CQ.end1; (· rfl); (· exact .tmp rfl))
        · exact ⟨true, rfl, rfl, fun h => by cases h⟩
        · exact selA
      · refine wk ?_
        (apply CQ.end1; (· rfl); (· exact .tmp rfl))
        · exact ⟨false, rfl, rfl, fun _ => ⟨by omega, fun hb => by have := hs hb (by omega); omega⟩⟩
        · exact selA
theorem rec_chs {H : Type} {enc : TypeId × Value → H} {w : World} {base : Nat} {spare : Nat → Bool} {held : Bool} :
    Rec enc Tryz.prog w base spare held 34 (fun r : ChsV => r.ok w.ph) ChsV.cells := fun n cs x h => by
  obtain ⟨b, l, c, rfl, hg, hnil, hle, hmax, hx⟩ := open_rows (sz := 3) Tryz.underlying34 (by kernel_rfl) (by decide) rec_chg h
  exact ⟨⟨b, l, c⟩, ⟨hnil, hle, hmax, hx, fun r hr => (hg r hr).1⟩, rfl⟩
end Go.Proofs.YtlckhaodecdbbaaGreatDoor
/-! The statement StoreSame, in the program. -/
namespace Go.Cx
theorem CX.share {P : Program} {n : Nat} {e0 : World} {X : Type} (E : X → Env) (M : X → List Assn) (good : X → Prop) {ops : Array Oper} {rest : List Oper} {Q : Exit → Act → World → Prop} {goal : Prop}
    (h1 : (∀ s, good s → CX P ops Q n e0 (E s) (M s) rest) → goal) (h2 : ∀ s, good s → CX P ops Q n e0 (E s) (M s) rest) : goal := h1 h2
abbrev StQ := JM × DS × Option Addr × Nat × List RwV
/-- Two stores that hold the same table. -/
structure SameG (n i : Nat) (q1 q2 : StQ) (bs1 bs2 : List Blk) (t : Tab) : Prop where
  g1 : GoodS 4096 (2060 + i * 2060) q1.2.1 q1.1 bs1 t
  g2 : GoodS (1000 + n) (2060 + i * 2060) q2.2.1 q2.1 bs2 t
  l1 : q1.2.1.left = 0
  l2 : q2.2.1.left = 0
  j1 : q1.1.n ≤ i + 1
  j2 : q2.1.n ≤ i + 1
  w : wt t ≤ i * 25000
  t1 : q1.2.2.2.2.map RwV.m = t
  t2 : q2.2.2.2.2.map RwV.m = t
  n1 : q1.2.2.1 = none → q1.2.2.2.2.length = 0 ∧ q1.2.2.2.1 = 0
  c1 : q1.2.2.2.2.length ≤ q1.2.2.2.1
  n2 : q2.2.2.1 = none → q2.2.2.2.2.length = 0 ∧ q2.2.2.2.1 = 0
  c2 : q2.2.2.2.2.length ≤ q2.2.2.2.1
theorem SameG.up {n i : Nat} {q1 q2 : StQ} {bs1 bs2 : List Blk} {t : Tab} (h : SameG n i q1 q2 bs1 bs2 t) : SameG n (i + 1) q1 q2 bs1 bs2 t :=
  ⟨h.g1.up (by omega), h.g2.up (by omega), h.l1, h.l2, by have := h.j1; omega, by have := h.j2; omega, Nat.le_trans h.w (Nat.mul_le_mul_right _ (Nat.le_succ i)), h.t1, h.t2, h.n1, h.c1, h.n2, h.c2⟩
theorem may_small {tl : List RwV} (h : MayR (tl.map RwV.m)) : ∀ r ∈ tl, r.s.b.length ≤ 1073741824 := fun r hr => Nat.le_trans (h.2 r.m (List.mem_map_of_mem hr)).2.2 (by decide)
theorem wt_len' {tl : List RwV} {t : Tab} (h : tl.map RwV.m = t) : tl.length ≤ wt t := by have := wt_len t; rw [← h, List.length_map] at this; rw [← h]; exact this
/-- A commit to the small store that finds room finds it in the great one too. -/
theorem same_round {n2 N1 N2 M : Nat} {D1 D2 : DS} {J1 J2 : JM} {bs1 bs2 : List Blk} {t : Tab} {l : List ChM} {W : Nat} (g1 : GoodS 4096 N1 D1 J1 bs1 t) (g2 : GoodS n2 N2 D2 J2 bs2 t) (h1 : D1.left = 0) (h2 : D2.left = 0) (hn : n2 ≤ 4096)
    (k1 : J1.n ≤ 59) (k2 : J2.n ≤ 59) (hW : MayC l → wl l ≤ W) (hT : wt t + W ≤ 1048572) (hw : (commitM J2 D2 t l).2.2.1.wf M) (hN1 : N1 ≤ M) (hN2 : N2 ≤ M) :
    commitM J2 D2 t l = (10, J2, D2, t) ∨ ∃ m J2' D2' bs2' t', m ≠ 10 ∧ commitM J2 D2 t l = (m, J2', D2', t') ∧ GoodS n2 M D2' J2' bs2' t' ∧ D2'.left = 0 ∧ J2'.n ≤ J2.n + 1 ∧ wt t' ≤ wt t + W ∧
      ((commitM J1 D1 t l).2.2.1.wf M → ∃ J1' D1' bs1', commitM J1 D1 t l = (m, J1', D1', t') ∧ GoodS 4096 M D1' J1' bs1' t' ∧ D1'.left = 0 ∧ J1'.n ≤ J1.n + 1) := by
  by_cases hm : MayC l
  rotate_left
  · have e : ∀ J D, commitM J D t l = (2, J, D, t) := fun J D => by unfold commitM; rw [if_pos hm]
    refine .inr ⟨2, J2, D2, bs2, t, by decide, e _ _, g2.up hN2, h2, by omega, by omega, fun _ => ⟨J1, D1, bs1, e _ _, g1.up hN1, h1, by omega⟩⟩
  by_cases h0 : l = []
  · subst h0
    exact .inr ⟨0, J2, D2, bs2, t, by decide, commit_none _ _ _, g2.up hN2, h2, by omega, by omega, fun _ => ⟨J1, D1, bs1, commit_none _ _ _, g1.up hN1, h1, by omega⟩⟩
  specialize hW hm
  have hwt := wt_apply t l
  rcases commit_go g2 h2 k2 hm h0 (by omega) (by omega) hw with ⟨e, -⟩ | ⟨bs2', J2', D2', hr, e, hj, gg, hl⟩
  · exact .inl e
  refine .inr ⟨0, J2', D2', bs2', _, by decide, e, gg, hl, by omega, by omega, fun hw1 => ?_⟩
  rcases commit_go g1 h1 k1 hm h0 (by omega) (by omega) hw1 with ⟨-, -, hc⟩ | ⟨bs1', J1', D1', -, e1, hj1, gg1, hl1⟩
  · exfalso
    rw [wholeB_cut] at hc
    rcases hr with ⟨rfl, hb⟩ | ⟨-, -, hb⟩
    · rcases fold_room _ _ gg.fold with ⟨h, -⟩ | h
      · simp at h
      · have hbl := g2.blocks
        rw [Cut_snoc, List.length_append] at h
        omega
    · rw [wholeB_cut] at hb; omega
  · exact ⟨J1', D1', bs1', e1, gg1, hl1, by omega⟩
end Go.Cx
namespace Go.Proofs.YtlckhaodecdbbaaGreatDoor
open Go.Cx
attribute [local irreducible] Go.Cx.CX Go.Cx.CC Go.Cx.CQ Go.Cx.PS Go.Cx.Ctr Go.Cx.CH
set_option maxRecDepth 10000
theorem srowsT_c (s p : Nat) (a : Option Addr) (tl : List RwV) (c : Nat) (hl : tl.length ≤ 1073741824) (hn : a = none → tl.length = 0 ∧ c = 0) (hv : ∀ r ∈ tl, r.s.b.length ≤ 1073741824) : Ctr Tryz.prog 17 [.pointer (some ⟨s, 0, none⟩)] [bk s 79 (stc p a tl.length c), tabA a tl] (fun _ => True)
    (fun v M => ∃ a' c' l, v = .slice a' (List.length l) c' ∧ M = [bk s 79 (stc p a tl.length c), tabA a tl, tabA a' l] ∧ l.map RwV.m = tl.map RwV.m) := by
  refine Ctr.conseq (srows_c s p a tl c hl hn hv) fun v M hv => ?_
  obtain ⟨a', c', l, rfl, rfl, hm⟩ := hv
  refine ⟨_, ⟨a', c', l, rfl, rfl, hm⟩, fun x h hs => ?_⟩
  have s1 := Sep.merge' (A := own 71 2 a' l.length c' (rows RwV.cells l)) (B := sepA (vl 5 l)) (C := tabA a' l) (.tail (.tail (.head _))) (.tail (.tail (.head _))) (fun k p q => own_tab (e := 71) k p (vl_val k q)) hs
  exact (Sel.sep (H := [bk s 79 (stc p a tl.length c), tabA a tl, tabA a' l]) (.cons (.tail (.head _)) (.cons (.tail (.head _)) (.cons (.head _) (.nil _)))) s1)
set_option maxHeartbeats 2000000 in
theorem same9_c (n : Nat) (hn : n < 256) (ls : List ChsV) (a : Option Addr) (c : Nat) (again : Nat) (ha : again < 4294967296) :
    Ctr Tryz.prog 5 [.int .u8 (n : Int), .slice a ls.length c, .int .u32 (again : Int)] [] (fun x => clAt a ls x ∧ errG x) (fun v M => v = .bool true ∧ M = []) := by
  refine Ctr.intro Tryz.func5 rfl Tryz.ntmps5 rfl fun x w hp => ?_
  obtain ⟨hp1, hp2⟩ := hp
  refine wk ?_
  refine CX.callA (new_c 4096) ?_
  rintro _ _ (⟨-, -, d1, rfl, rfl⟩ | ⟨h, -, -⟩)
  rotate_left
  · omega
  refine wk ?_
  refine CX.callA (new_c ((1000 : Int) + (n : Int))) ?_
  rw [show ((1000 : Int) + (n : Int)).toNat = 1000 + n by omega]
  rintro _ _ (⟨-, -, d2, rfl, rfl⟩ | ⟨h, -, -⟩)
  rotate_left
  · omega
  refine wk ?_
  refine CX.callA (smake_new d1 4096 (by decide) (by decide)) ?_
  rintro _ _ ⟨s1, p1, D1, rfl, rfl, g1, hd1⟩
  refine wk ?_
  refine CX.callA (smake_new d2 (1000 + n) (by omega) (by omega)) ?_
  rintro _ _ ⟨s2, p2, D2, rfl, rfl, g2, hd2⟩
  refine wk ?_
  refine CC.loop (X := Nat × (JM × DS × Option Addr × Nat × List RwV) × Nat × Nat × (JM × DS × Option Addr × Nat × List RwV)) (fun s => [(15, .int .i64 (s.1 : Int)), (1, .slice a ls.length c), (2, .int .u32 (again : Int)), (7, .pointer (some ⟨d1, 0, none⟩)), (9, .pointer (some ⟨d2, 0, none⟩)), (11, .pointer (some ⟨s1, 0, none⟩)), (13, .pointer (some ⟨s.2.2.1, 0, none⟩))])
    (fun s => [bk s1 79 (stc p1 s.2.1.2.2.1 s.2.1.2.2.2.2.length s.2.1.2.2.2.1), bk p1 123 (jrc d1 s.2.1.1), disk d1 s.2.1.2.1, tabA s.2.1.2.2.1 s.2.1.2.2.2.2, bk s.2.2.1 79 (stc s.2.2.2.1 s.2.2.2.2.2.2.1 s.2.2.2.2.2.2.2.2.length s.2.2.2.2.2.2.2.1), bk s.2.2.2.1 123 (jrc d2 s.2.2.2.2.1), disk d2 s.2.2.2.2.2.1, tabA s.2.2.2.2.2.2.1 s.2.2.2.2.2.2.2.2, exact x])
    (fun s => s.1 ≤ 30 ∧ ∃ bs1 bs2 t, SameG n s.1 s.2.1 s.2.2.2.2 bs1 bs2 t)
    (fun s => 30 - s.1) (0, (⟨1, HdM.z⟩, D1, none, 0, []), s2, p2, (⟨1, HdM.z⟩, D2, none, 0, []))
    ⟨Nat.zero_le _, [], [], [], g1, g2, hd1, hd2, Nat.le_refl _, Nat.le_refl _, Nat.zero_le _, rfl, rfl, fun _ => ⟨rfl, rfl⟩, Nat.le_refl _, fun _ => ⟨rfl, rfl⟩, Nat.le_refl _⟩ ⟨rfl, rfl, rfl, rfl, rfl, rfl, rfl, trivial⟩ (by exact selA) ?_
  clear g1 g2 hd1 hd2
  rintro ⟨i, ⟨J1, D1, a1, c1, tl1⟩, s2, p2, ⟨J2, D2, a2, c2, tl2⟩⟩ ⟨hi, bs1, bs2, t, hG⟩
  have hG0 := hG
  obtain ⟨g1, g2, hd1, hd2, hj1, hj2, hwt, ht1, ht2, hn1, hc1, hn2, hc2⟩ := hG
  dsimp only at hi g1 g2 hd1 hd2 hj1 hj2 hwt ht1 ht2 hn1 hc1 hn2 hc2 ⊢
  have hl1 := wt_len' ht1
  have hl2 := wt_len' ht2
  have hm1 : MayR (tl1.map RwV.m) := by rw [ht1]; exact g1.may
  have hm2 : MayR (tl2.map RwV.m) := by rw [ht2]; exact g2.may
  by_cases h1 : i < ls.length ∧ i < 30
  rotate_left
  · have fin : ∀ (h : ¬ (i < ls.length ∧ i < 30)), True := fun _ => trivial
    by_cases h2 : i < ls.length
    · have h3 : ¬ (i : Int) < 30 := by omega
      refine wk ?_
      refine CX.callA (sopen_go d1 g1 (by omega)) ?_
      rintro _ _ ⟨s3, p3, a3, tl3, c3, rfl, rfl, ht3, hn3, hc3⟩
      have hl3 := wt_len' ht3
      refine wk ?_
      refine CX.callA (srowsT_c s3 p3 a3 tl3 c3 (by omega) hn3 (may_small (by rw [ht3]; exact g1.may))) ?_
      rintro _ _ ⟨a4, c4, l4, rfl, rfl, ht4⟩
      refine wk ?_
      refine CX.callA (srowsT_c s2 p2 a2 tl2 c2 (by omega) hn2 (may_small hm2)) ?_
      rintro _ _ ⟨a5, c5, l5, rfl, rfl, ht5⟩
      have hl4 := wt_len' (ht4.trans ht3)
      have hl5 := wt_len' (ht5.trans ht2)
      refine CX.callA (eqmR_c l4 l5 (by omega) a4 a5 c4 c5 (by omega)) ?_ (hpre := by exact fun y hy => ⟨rw_tab (by first | exact pickA | exact updA) y hy, rw_tab (by first | exact pickA | exact updA) y hy⟩)
      rw [decide_eq_true (ht4.trans (ht3.trans (ht2.symm.trans ht5.symm)))]
      rintro _ _ ⟨rfl, rfl⟩
      refine wk ?_
      refine CX.callA (lives9_c) ?_ (hpre := by exact errG_ex (by first | exact pickA | exact updA) hp2)
      rintro _ _ ⟨rfl, rfl⟩
      refine wk ?_
      ((apply CQ.end1; (· rfl); (· exact .tmp rfl)); (· exact ⟨rfl, rfl⟩); (· exact selA))
    · refine wk ?_
      refine CX.callA (sopen_go d1 g1 (by omega)) ?_
      rintro _ _ ⟨s3, p3, a3, tl3, c3, rfl, rfl, ht3, hn3, hc3⟩
      have hl3 := wt_len' ht3
      refine wk ?_
      refine CX.callA (srowsT_c s3 p3 a3 tl3 c3 (by omega) hn3 (may_small (by rw [ht3]; exact g1.may))) ?_
      rintro _ _ ⟨a4, c4, l4, rfl, rfl, ht4⟩
      refine wk ?_
      refine CX.callA (srowsT_c s2 p2 a2 tl2 c2 (by omega) hn2 (may_small hm2)) ?_
      rintro _ _ ⟨a5, c5, l5, rfl, rfl, ht5⟩
      have hl4 := wt_len' (ht4.trans ht3)
      have hl5 := wt_len' (ht5.trans ht2)
      refine CX.callA (eqmR_c l4 l5 (by omega) a4 a5 c4 c5 (by omega)) ?_ (hpre := by exact fun y hy => ⟨rw_tab (by first | exact pickA | exact updA) y hy, rw_tab (by first | exact pickA | exact updA) y hy⟩)
      rw [decide_eq_true (ht4.trans (ht3.trans (ht2.symm.trans ht5.symm)))]
      rintro _ _ ⟨rfl, rfl⟩
      refine wk ?_
      refine CX.callA (lives9_c) ?_ (hpre := by exact errG_ex (by first | exact pickA | exact updA) hp2)
      rintro _ _ ⟨rfl, rfl⟩
      refine wk ?_
      ((apply CQ.end1; (· rfl); (· exact .tmp rfl)); (· exact ⟨rfl, rfl⟩); (· exact selA))
  obtain ⟨h1, h2⟩ := h1
  obtain ⟨ga, oa, rfl⟩ := clAt_some hp1 (by omega)
  have hsok := hp1.2 ls[i] (List.getElem_mem h1)
  have hcS : ∀ {L L' : List Assn}, Pick (exact x) L L' → CellAt L ga (oa + i * 1) (.slice (ls[i]).a (ls[i]).l.length (ls[i]).c) := fun pk => hp1.cell pk h1
  generalize ls[i] = r at *
  have hrl := hsok.le
  refine wk ?_
  (refine CX.indexA (i) ?_ ?_; (· exact h1))
  (apply CX.ps; (· apply PS.load (v := .slice r.a r.l.length r.c); (· rfl); (· rfl); (· exact hcS (by first | exact pickA | exact updA))))
  refine CX.callA (great_c r.a r.l r.c (Nat.le_trans hsok.le hsok.max)) ?_ (hpre := by exact ch_ex (by first | exact pickA | exact updA) hsok.r)
  rintro _ _ ⟨gr, rfl, rfl, hsm⟩
  cases gr with
  | true =>
    refine wk ?_
    refine CQ.round (x := (i, (J1, D1, a1, c1, tl1), s2, p2, (J2, D2, a2, c2, tl2))) (i + 1, (J1, D1, a1, c1, tl1), s2, p2, (J2, D2, a2, c2, tl2)) ?_ (by dsimp only; omega) ⟨eqI (by omega), rfl, rfl, rfl, rfl, rfl, rfl, trivial⟩ (by exact selA)
    exact ⟨by dsimp only; omega, bs1, bs2, t, hG0.up⟩
  | false =>
    have hsmall := hsm rfl
    have hW : MayC (r.l.map ChV.m) → wl (r.l.map ChV.m) ≤ 25000 := hsmall.wl
    have hr200 := hsmall.1
    refine wk ?_
    (refine CX.indexA (i) ?_ ?_; (· exact h1))
    (apply CX.ps; (· apply PS.load (v := .slice r.a r.l.length r.c); (· rfl); (· rfl); (· exact hcS (by first | exact pickA | exact updA))))
    refine CX.callA (scommit_c s2 p2 d2 g2.g (by omega) (by omega) r.l tl2 hm2 (by omega) (fun h => by have := hW h; rw [ht2]; omega) (by rw [ht2]; omega) r.a a2 r.c c2 hrl hc2 hn2) ?_ (hpre := by exact fun y hy => ⟨ch_ex (by first | exact pickA | exact updA) hsok.r y hy, errG_ex (by first | exact pickA | exact updA) hp2 y hy⟩)
    rw [ht2]
    unfold CommitP
    rintro _ _ ⟨a6, c6, tl6, rfl, rfl, ht6, hn6, hc6, hw6⟩
    apply CX.share (P := Tryz.prog) (n := 121) (e0 := w) (X := StQ × StQ) (fun q => [(85, .int .u32 (again : Int)), (87, .int .u64 (i : Int)), (15, .int .i64 (i : Int)), (1, .slice (some ⟨ga, oa, none⟩) ls.length c), (2, .int .u32 (again : Int)), (7, .pointer (some ⟨d1, 0, none⟩)), (9, .pointer (some ⟨d2, 0, none⟩)), (11, .pointer (some ⟨s1, 0, none⟩)), (13, .pointer (some ⟨s2, 0, none⟩))])
      (fun q => [bk s1 79 (stc p1 q.1.2.2.1 q.1.2.2.2.2.length q.1.2.2.2.1), bk p1 123 (jrc d1 q.1.1), disk d1 q.1.2.1, tabA q.1.2.2.1 q.1.2.2.2.2, bk s2 79 (stc p2 q.2.2.2.1 q.2.2.2.2.2.length q.2.2.2.2.1), bk p2 123 (jrc d2 q.2.1), disk d2 q.2.2.1, tabA q.2.2.2.1 q.2.2.2.2.2, exact x]) (fun q => ∃ bs1 bs2 t, SameG n (i + 1) q.1 q.2 bs1 bs2 t)
    · intro fin
      have hwf : 2060 + i * 2060 + 2060 = 2060 + (i + 1) * 2060 := by omega
      rw [hwf] at hw6
      have hi25 : wt t + 25000 ≤ 1048572 := by omega
      have hw25 : wt t + 25000 ≤ (i + 1) * 25000 := by rw [Nat.succ_mul]; exact Nat.add_le_add_right hwt _
      rcases same_round (l := r.l.map ChV.m) g1 g2 hd1 hd2 (by omega) (by omega) (by omega) hW hi25 hw6 (by omega) (by omega) with e | ⟨m, J2', D2', bs2', t', hm10, e, gg2, hdd2, hjj2, hwt', hx⟩
      · rw [e] at ht6 hw6 ⊢
        dsimp only at ht6 hw6 ⊢
        refine wk ?_
        have f := fin ((J1, D1, a1, c1, tl1), (J2, D2, a6, c6, tl6)) ⟨bs1, bs2, t, g1.up (by omega), g2.up (by omega), hd1, hd2, by dsimp only; omega, by dsimp only; omega, Nat.le_trans hwt (Nat.mul_le_mul_right _ (Nat.le_succ i)), ht1, ht6, hn1, hc1, hn6, hc6⟩
        apply CX.weak (h := f)
        · exact ⟨rfl, rfl, rfl, rfl, rfl, rfl, rfl, rfl, rfl, trivial⟩
        · exact selA
      · rw [e] at ht6 hw6 ⊢
        dsimp only at ht6 hw6 ⊢
        refine wk ?_
        (refine CX.indexA (i) ?_ ?_; (· exact h1))
        (apply CX.ps; (· apply PS.load (v := .slice r.a r.l.length r.c); (· rfl); (· rfl); (· exact hcS (by first | exact pickA | exact updA))))
        refine CX.callA (scommit_c s1 p1 d1 g1.g (by omega) (by omega) r.l tl1 hm1 (by omega) (fun h => by have := hW h; rw [ht1]; omega) (by rw [ht1]; omega) r.a a1 r.c c1 hrl hc1 hn1) ?_ (hpre := by exact fun y hy => ⟨ch_ex (by first | exact pickA | exact updA) hsok.r y hy, errG_ex (by first | exact pickA | exact updA) hp2 y hy⟩)
        rw [ht1]
        unfold CommitP
        rintro _ _ ⟨a7, c7, tl7, rfl, rfl, ht7, hn7, hc7, hw7⟩
        rw [hwf] at hw7
        obtain ⟨J1', D1', bs1', e1, gg1, hdd1, hjj1⟩ := hx hw7
        rw [e1] at ht7 hw7 ⊢
        dsimp only at ht7 hw7 ⊢
        refine wk ?_
        have f := fin ((J1', D1', a7, c7, tl7), (J2', D2', a6, c6, tl6)) ⟨bs1', bs2', t', gg1, gg2, hdd1, hdd2, by dsimp only; omega, by dsimp only; omega, Nat.le_trans hwt' hw25, ht7, ht6, hn7, hc7, hn6, hc6⟩
        apply CX.weak (h := f)
        · exact ⟨rfl, rfl, rfl, rfl, rfl, rfl, rfl, rfl, rfl, trivial⟩
        · exact selA
    · rintro ⟨⟨J1', D1', a7, c7, tl7⟩, ⟨J2', D2', a6', c6', tl6'⟩⟩ ⟨bs1', bs2', t', hH⟩
      have hH0 := hH
      obtain ⟨g1', g2', hd1', hd2', hj1', hj2', hwt', ht1', ht2', hn1', hc1', hn2', hc2'⟩ := hH
      dsimp only at g1' g2' hd1' hd2' hj1' hj2' hwt' ht1' ht2' hn1' hc1' hn2' hc2' ⊢
      have hi31 : (i + 1) * 25000 ≤ 750000 := Nat.mul_le_mul_right 25000 (show i + 1 ≤ 30 by omega)
      have hl1' := wt_len' ht1'
      have hl2' := wt_len' ht2'
      have hm1' : MayR (tl7.map RwV.m) := by rw [ht1']; exact g1'.may
      have hm2' : MayR (tl6'.map RwV.m) := by rw [ht2']; exact g2'.may
      have hsh : again / 2 ^ i < 4294967296 := Nat.lt_of_le_of_lt (Nat.div_le_self _ _) ha
      refine CX.ps (PS.shrN again i (by show i ≤ 32; omega) rfl rfl rfl) ?_
      refine CX.ps (PS.andN (k := .u32) (again / 2 ^ i) 1 rfl hsh (by decide) rfl rfl rfl) ?_
      generalize again / 2 ^ i &&& 1 = bit
      by_cases hbit : bit = 1
      · refine wk ?_
        refine CX.callA (sopen_go d2 g2' (by omega)) ?_
        rintro _ _ ⟨s3, p3, a3, tl3, c3, rfl, rfl, ht3, hn3, hc3⟩
        have hl3 := wt_len' ht3
        have hm3 : MayR (tl3.map RwV.m) := by rw [ht3]; exact g2'.may
        refine wk ?_
        refine CX.callA (srowsT_c s1 p1 a7 tl7 c7 (by omega) hn1' (may_small hm1')) ?_
        rintro _ _ ⟨a4, c4, l4, rfl, rfl, ht4⟩
        refine wk ?_
        refine CX.callA (srowsT_c s3 p3 a3 tl3 c3 (by omega) hn3 (may_small hm3)) ?_
        rintro _ _ ⟨a5, c5, l5, rfl, rfl, ht5⟩
        have hl4 := wt_len' (ht4.trans ht1')
        have hl5 := wt_len' (ht5.trans ht3)
        refine CX.callA (eqmR_c l4 l5 (by omega) a4 a5 c4 c5 (by omega)) ?_ (hpre := by exact fun y hy => ⟨rw_tab (by first | exact pickA | exact updA) y hy, rw_tab (by first | exact pickA | exact updA) y hy⟩)
        rw [decide_eq_true (ht4.trans (ht1'.trans (ht3.symm.trans ht5.symm)))]
        rintro _ _ ⟨rfl, rfl⟩
        refine wk ?_
        refine CQ.round (x := (i, (J1, D1, a1, c1, tl1), s2, p2, (J2, D2, a2, c2, tl2))) (i + 1, (J1', D1', a7, c7, tl7), s3, p3, (J2', D2', a3, c3, tl3)) ?_ (by dsimp only; omega) ⟨eqI (by omega), rfl, rfl, rfl, rfl, rfl, rfl, trivial⟩ (by exact selA)
        exact ⟨by dsimp only; omega, bs1', bs2', t', g1', g2', hd1', hd2', hj1', hj2', hwt', ht1', ht3, hn1', hc1', hn3, hc3⟩
      · refine wk ?_
        refine CX.callA (srowsT_c s1 p1 a7 tl7 c7 (by omega) hn1' (may_small hm1')) ?_
        rintro _ _ ⟨a4, c4, l4, rfl, rfl, ht4⟩
        refine wk ?_
        refine CX.callA (srowsT_c s2 p2 a6' tl6' c6' (by omega) hn2' (may_small hm2')) ?_
        rintro _ _ ⟨a5, c5, l5, rfl, rfl, ht5⟩
        have hl4 := wt_len' (ht4.trans ht1')
        have hl5 := wt_len' (ht5.trans ht2')
        refine CX.callA (eqmR_c l4 l5 (by omega) a4 a5 c4 c5 (by omega)) ?_ (hpre := by exact fun y hy => ⟨rw_tab (by first | exact pickA | exact updA) y hy, rw_tab (by first | exact pickA | exact updA) y hy⟩)
        rw [decide_eq_true (ht4.trans (ht1'.trans (ht2'.symm.trans ht5.symm)))]
        rintro _ _ ⟨rfl, rfl⟩
        refine wk ?_
        refine CQ.round (x := (i, (J1, D1, a1, c1, tl1), s2, p2, (J2, D2, a2, c2, tl2))) (i + 1, (J1', D1', a7, c7, tl7), s2, p2, (J2', D2', a6', c6', tl6')) ?_ (by dsimp only; omega) ⟨eqI (by omega), rfl, rfl, rfl, rfl, rfl, rfl, trivial⟩ (by exact selA)
        exact ⟨by dsimp only; omega, bs1', bs2', t', hH0⟩
end Go.Proofs.YtlckhaodecdbbaaGreatDoor
/-! Layer 8's document, plain: row by row it comes to the same. No program in sight. -/
namespace Go.Cx
theorem apply_nil (t : Tab) : applyM t [] = t := by cases t <;> rw [applyM]
theorem rising_one (c : ChM) : RisingC [c] := .cons (fun _ h => by cases h) .nil
theorem fold_apply_val (k : Blk) : ∀ (l : List ChM) (t : Tab), Rising t → RisingC l → val (l.foldl (fun t c => applyM t [c]) t) k = chV l k (val t k)
  | [], t, _, _ => by simp [chV_low (l := []) (fun _ h => by cases h)]
  | y :: l, t, ht, hl => by
    have hl' : RisingC l := List.Pairwise.of_cons hl
    have hlow : ∀ z ∈ l, klt y.key z.key = true := fun z hz => List.rel_of_pairwise_cons hl hz
    rw [List.foldl_cons, fold_apply_val k l _ (apply_rising t [y] ht (rising_one y)) hl', val_apply k t [y] ht (rising_one y), chV_cons, chV_cons]
    by_cases h : y.key = k
    · rw [if_pos h, if_pos h]
      subst h
      exact chV_low hlow _
    · rw [if_neg h, if_neg h, chV_low (l := []) (fun _ h => by cases h)]
theorem fold_apply_rising : ∀ (l : List ChM) (t : Tab), Rising t → Rising (l.foldl (fun t c => applyM t [c]) t)
  | [], _, h => h
  | y :: l, t, h => fold_apply_rising l _ (apply_rising t [y] h (rising_one y))
theorem fold_apply {t : Tab} {l : List ChM} (ht : Rising t) (hl : RisingC l) : l.foldl (fun t c => applyM t [c]) t = applyM t l :=
  val_ext (fold_apply_rising l t ht) (apply_rising t l ht hl) fun k => by rw [fold_apply_val k l t ht hl, val_apply k t l ht hl]
/-- A row put where it belongs, as the document does it. -/
def pgK {α : Type} (key : α → Blk) (x : α) : Bool → List α → List α
  | d, [] => if d then [] else [x]
  | d, r :: t => (if d = false ∧ klt (key r) (key x) = false then [x] else []) ++ (if key r = key x then [] else [r]) ++ pgK key x (d || !klt (key r) (key x)) t
theorem pgK_map {α β : Type} (f : α → β) (key : α → Blk) (key' : β → Blk) (hk : ∀ a, key' (f a) = key a) (x : α) : ∀ (d : Bool) (l : List α), (pgK key x d l).map f = pgK key' (f x) d (l.map f)
  | d, [] => by cases d <;> simp [pgK]
  | d, r :: t => by
    rw [pgK, List.map_cons, pgK, List.map_append, List.map_append, pgK_map f key key' hk x, hk, hk]
    congr 1
    congr 1
    · split <;> rfl
    · split <;> rfl
theorem pgK_mem {α : Type} (key : α → Blk) (x : α) : ∀ (d : Bool) (l : List α), ∀ r ∈ pgK key x d l, r = x ∨ r ∈ l
  | d, [], r, h => by rw [pgK] at h; split at h <;> simp_all
  | d, q :: t, r, h => by
    rw [pgK] at h
    rcases List.mem_append.1 h with h | h
    · rcases List.mem_append.1 h with h | h
      · split at h <;> simp_all
      · split at h <;> simp_all
    · exact (pgK_mem key x _ t r h).imp id (.tail _)
theorem pgK_len {α : Type} (key : α → Blk) (x : α) : ∀ (d : Bool) (l : List α), (pgK key x d l).length ≤ l.length + (if d then 0 else 1)
  | d, [] => by cases d <;> simp [pgK]
  | d, q :: t => by
    have ih := pgK_len key x (d || !klt (key q) (key x)) t
    rw [pgK]
    simp only [List.length_append, List.length_cons]
    cases d <;> cases hk : klt (key q) (key x) <;> simp [hk] at ih ⊢ <;> split <;> simp <;> omega
theorem pg_true (x : Blk × Blk) : ∀ (t : Tab), (∀ r ∈ t, r.1 ≠ x.1) → pgK Prod.fst x true t = t
  | [], _ => by simp [pgK]
  | r :: t, h => by
    rw [pgK, if_neg (by simp), if_neg (h r (.head _)), Bool.true_or, pg_true x t fun q hq => h q (.tail _ hq)]
    rfl
theorem pg_false (x : Blk × Blk) : ∀ (t : Tab), Rising t → pgK Prod.fst x false t = applyM t [⟨x.1, x.2, false⟩]
  | [], _ => by simp [pgK, applyM]
  | r :: t, h => by
    have ht : Rising t := List.Pairwise.of_cons h
    have hr : ∀ q ∈ t, klt r.1 q.1 = true := fun q hq => List.rel_of_pairwise_cons h hq
    rw [pgK, applyM]
    rcases klt_tri r.1 x.1 with hk | hk | hk
    · rw [if_neg (by simp [hk]), if_neg (klt_ne hk), if_pos (show klt r.1 (ChM.key ⟨x.1, x.2, false⟩) = true from hk), hk]
      simp only [Bool.not_true, Bool.or_false, List.nil_append, List.singleton_append]
      rw [pg_false x t ht]
    · have hf : klt r.1 x.1 = false := by rw [hk]; exact klt_irr _
      rw [if_pos ⟨rfl, hf⟩, if_pos hk, if_neg (show ¬ klt r.1 (ChM.key ⟨x.1, x.2, false⟩) = true from by rw [show ChM.key ⟨x.1, x.2, false⟩ = x.1 from rfl, hf]; simp), if_pos (show r.1 = (ChM.key ⟨x.1, x.2, false⟩) from hk), hf]
      simp only [Bool.not_false, Bool.or_true, List.append_nil, List.singleton_append]
      rw [pg_true x t (fun q hq e => by have := hr q hq; rw [e, ← hk, klt_irr] at this; cases this), apply_nil]
      simp
    · have hf : klt r.1 x.1 = false := klt_asym hk
      have hne : ¬ r.1 = x.1 := fun e => klt_ne hk e.symm
      rw [if_pos ⟨rfl, hf⟩, if_neg hne, if_neg (show ¬ klt r.1 (ChM.key ⟨x.1, x.2, false⟩) = true from by rw [show ChM.key ⟨x.1, x.2, false⟩ = x.1 from rfl, hf]; simp), if_neg (show ¬ r.1 = (ChM.key ⟨x.1, x.2, false⟩) from hne), hf]
      simp only [Bool.not_false, Bool.or_true, List.singleton_append, List.cons_append, List.nil_append]
      rw [pg_true x t (fun q hq e => by have := klt_tr hk (hr q hq); rw [e, klt_irr] at this; cases this), apply_nil]
      simp
theorem wo_keep {k : Blk} {t : Tab} (h : ∀ r ∈ t, r.1 ≠ k) : t.filter (fun r => decide (r.1 ≠ k)) = t := List.filter_eq_self.2 fun r hr => by simp [h r hr]
theorem wo_apply (k v : Blk) : ∀ (t : Tab), Rising t → t.filter (fun r => decide (r.1 ≠ k)) = applyM t [⟨k, v, true⟩]
  | [], _ => by simp [applyM]
  | r :: t, h => by
    have ht : Rising t := List.Pairwise.of_cons h
    have hr : ∀ q ∈ t, klt r.1 q.1 = true := fun q hq => List.rel_of_pairwise_cons h hq
    rw [applyM]
    rcases klt_tri r.1 k with hk | hk | hk
    · rw [if_pos (show klt r.1 (ChM.key ⟨k, v, true⟩) = true from hk), List.filter_cons_of_pos (by simp [klt_ne hk]), wo_apply k v t ht]
    · have hf : klt r.1 k = false := by rw [hk]; exact klt_irr _
      rw [if_neg (show ¬ klt r.1 (ChM.key ⟨k, v, true⟩) = true from by rw [show ChM.key ⟨k, v, true⟩ = k from rfl, hf]; simp), if_pos (show r.1 = (ChM.key ⟨k, v, true⟩) from hk), List.filter_cons_of_neg (by simp [hk]), wo_keep (fun q hq e => by have := hr q hq; rw [e, ← hk, klt_irr] at this; cases this), apply_nil]
      simp
    · have hf : klt r.1 k = false := klt_asym hk
      have hne : ¬ r.1 = k := fun e => klt_ne hk e.symm
      rw [if_neg (show ¬ klt r.1 (ChM.key ⟨k, v, true⟩) = true from by rw [show ChM.key ⟨k, v, true⟩ = k from rfl, hf]; simp), if_neg (show ¬ r.1 = (ChM.key ⟨k, v, true⟩) from hne), List.filter_cons_of_pos (by simp [hne]), wo_keep (fun q hq e => by have := klt_tr hk (hr q hq); rw [e, klt_irr] at this; cases this), apply_nil]
      simp
end Go.Cx
/-! The document's answer for layer 8 (ref 08): rows put and taken away, in the program. -/
namespace Go.Cx
theorem filter_take {α : Type} {l : List α} {i : Nat} (h : i < l.length) (p : α → Bool) : (l.take (i + 1)).filter p = (l.take i).filter p ++ (if p l[i] then [l[i]] else []) := by
  rw [List.take_add_one, List.getElem?_eq_getElem h, List.filter_append]
  congr 1
  simp only [Option.toList_some, List.filter_cons, List.filter_nil]
/-- Rows without that of a key. -/
def woV (k : Blk) (l : List RwV) : List RwV := l.filter fun r => decide (r.key ≠ k)
theorem woV_m (k : Blk) (l : List RwV) : (woV k l).map RwV.m = (l.map RwV.m).filter fun r => decide (r.1 ≠ k) := by
  unfold woV
  rw [List.filter_map]
  rfl
theorem woV_mem {k : Blk} {l : List RwV} {r : RwV} (h : r ∈ woV k l) : r ∈ l := (List.mem_filter.1 h).1
theorem woV_len (k : Blk) (l : List RwV) : (woV k l).length ≤ l.length := List.length_filter_le _ _
end Go.Cx
namespace Go.Proofs.YtlckhaodecdbbaaGreatDoor
open Go.Cx
attribute [local irreducible] Go.Cx.CX Go.Cx.CC Go.Cx.CQ Go.Cx.PS Go.Cx.Ctr Go.Cx.CH
set_option maxRecDepth 10000
theorem r8key_c (k : Blk) : Ctr Tryz.prog 74 [sv k] [] (fun _ => True) (fun v M => v = .bool (decide (1 ≤ k.length ∧ k.length ≤ 16)) ∧ M = []) := by
  refine Ctr.intro Tryz.func74 rfl Tryz.ntmps74 rfl fun x w hp => ?_
  by_cases h1 : 1 ≤ k.length
  · by_cases h2 : k.length ≤ 16
    · rw [decide_eq_true ⟨h1, h2⟩]
      refine wk ?_
      refine CX.ps (PS.lenStr rfl rfl) ?_
      refine wk ?_
      refine CX.ps (PS.lenStr rfl rfl) ?_
      refine wk ?_
      ((apply CQ.end1; (· rfl); (· exact .tmp rfl)); (· exact ⟨rfl, rfl⟩); (· exact selA))
    · rw [decide_eq_false (fun h => h2 h.2)]
      refine wk ?_
      refine CX.ps (PS.lenStr rfl rfl) ?_
      refine wk ?_
      refine CX.ps (PS.lenStr rfl rfl) ?_
      refine wk ?_
      ((apply CQ.end1; (· rfl); (· exact .tmp rfl)); (· exact ⟨rfl, rfl⟩); (· exact selA))
  · rw [decide_eq_false (fun h => h1 h.1)]
    refine wk ?_
    refine CX.ps (PS.lenStr rfl rfl) ?_
    refine wk ?_
    ((apply CQ.end1; (· rfl); (· exact .tmp rfl)); (· exact ⟨rfl, rfl⟩); (· exact selA))
theorem r8wo_c (l : List RwV) (hl : l.length ≤ 1073741824) (a : Option Addr) (c : Nat) (k : Blk) : Ctr Tryz.prog 40 [.slice a l.length c, sv k] [] (fun x => rwAt a l x)
    (fun v M => ∃ a' c', v = .slice a' (woV k l).length c' ∧ M = [own 71 2 a' (woV k l).length c' (rows RwV.cells (woV k l))]) := by
  refine Ctr.intro Tryz.func40 rfl Tryz.ntmps40 rfl fun x w hp => ?_
  refine CC.ownNil 71 2 ?_
  refine wk ?_
  refine CC.loop (X := Nat × Option Addr × Nat) (fun s => [(6, .int .i64 (s.1 : Int)), (5, .slice s.2.1 (woV k (l.take s.1)).length s.2.2), (0, .slice a l.length c), (1, sv k)])
    (fun s => [own 71 2 s.2.1 (woV k (l.take s.1)).length s.2.2 (rows RwV.cells (woV k (l.take s.1))), exact x]) (fun s => s.1 ≤ l.length) (fun s => l.length - s.1) (0, none, 0) (Nat.zero_le _) ⟨rfl, rfl, rfl, rfl, trivial⟩ (by exact selA) ?_
  rintro ⟨i, a5, c5⟩ hi
  dsimp only at hi ⊢
  by_cases h1 : i < l.length
  rotate_left
  · rw [show l.take i = l from List.take_of_length_le (by omega)]
    refine wk ?_
    (apply CQ.end1; (· rfl); (· exact .tmp rfl))
    · exact ⟨a5, c5, rfl, rfl⟩
    · exact selA
  obtain ⟨g, off, rfl⟩ := rwAt_some hp (by omega)
  have hlen : (woV k (l.take i)).length ≤ i := Nat.le_trans (woV_len _ _) (by simp; omega)
  have hft := filter_take h1 (fun r : RwV => decide (r.key ≠ k))
  by_cases hk : (l[i]).key = k
  · have e : woV k (l.take (i + 1)) = woV k (l.take i) := by unfold woV; rw [hft, if_neg (by simp [hk]), List.append_nil]
    refine wk ?_
    (refine CX.indexA (i) ?_ ?_; (· exact h1))
    refine wk ?_
    (apply CX.ps; (· apply PS.load (v := sv (l[i]).key); (· rfl); (· rfl); (· exact hp.cell (by first | exact pickA | exact updA) h1 0 rfl)))
    refine wk ?_
    refine CX.ps ((PS.neqStr (a := (l[i]).key) (b := k) rfl rfl rfl).toF (fun h => h hk)) ?_
    refine wk ?_
    refine CQ.round (x := (i, a5, c5)) (i + 1, a5, c5) h1 (by dsimp only; omega) ?_ (by dsimp only; rw [e]; exact selA)
    dsimp only
    rw [e]
    exact ⟨eqI (by omega), rfl, rfl, rfl, trivial⟩
  · have e : woV k (l.take (i + 1)) = woV k (l.take i) ++ [l[i]] := by unfold woV; rw [hft, if_pos (by simp [hk])]
    have e2 : rows RwV.cells (woV k (l.take i)) ++ (l[i]).cells = rows RwV.cells (woV k (l.take (i + 1))) := by rw [e, rows_append]; simp [rows]
    refine wk ?_
    (refine CX.indexA (i) ?_ ?_; (· exact h1))
    refine wk ?_
    (apply CX.ps; (· apply PS.load (v := sv (l[i]).key); (· rfl); (· rfl); (· exact hp.cell (by first | exact pickA | exact updA) h1 0 rfl)))
    refine wk ?_
    refine CX.ps ((PS.neqStr (a := (l[i]).key) (b := k) rfl rfl rfl).toT hk) ?_
    refine wk ?_
    (refine CX.indexA (i) ?_ ?_; (· exact h1))
    (apply CX.ps; (· apply PS.loadG (vs := (l[i]).cells); (· rfl); (· rfl); (· exact hp.cells (by first | exact pickA | exact updA) h1); (· rfl)))
    refine CX.buildSl (parts := [(0, _)]) (vs := [(0, .agg (l[i]).cells.toArray)]) (out := (l[i]).cells) rfl rfl (by decide) (by simp [fillL, Value.cells, setL, RwV.cells]) fun bq => ?_
    refine CX.append (m := 1) (news := (l[i]).cells) rfl rfl rfl (by first | exact pickA | exact updA) (RdS.pick (b := bq) (o := 0) (by first | exact pickA | exact updA) rfl (one_all rfl) rfl) (by omega) (fun h => by cases h) ?_
    intro a3 c3
    rw [e2]
    have e3 : (woV k (l.take i)).length + 1 = (woV k (l.take (i + 1))).length := by rw [e]; simp
    rw [e3]
    refine wk ?_
    exact CQ.round (x := (i, a5, c5)) (i + 1, a3, c3) h1 (by dsimp only; omega) ⟨eqI (by omega), rfl, rfl, rfl, trivial⟩ (by exact selA)
end Go.Proofs.YtlckhaodecdbbaaGreatDoor
/-! ref 08: a row put where it belongs, in the program. -/
namespace Go.Cx
theorem CC.share {P : Program} {n : Nat} {e0 : World} {X : Type} (E : X → Env) (M : X → List Assn) (good : X → Prop) {c : Code} {Q : Exit → Act → World → Prop} {goal : Prop}
    (h1 : (∀ s, good s → CC P c Q n e0 (E s) (M s)) → goal) (h2 : ∀ s, good s → CC P c Q n e0 (E s) (M s)) : goal := h1 h2
theorem pgK_cons {α : Type} (key : α → Blk) (x r : α) (d : Bool) (t : List α) : pgK key x d (r :: t) = (if d = false ∧ klt (key r) (key x) = false then [x] else []) ++ (if key r = key x then [] else [r]) ++ pgK key x (d || !klt (key r) (key x)) t := by rw [pgK]
end Go.Cx
namespace Go.Proofs.YtlckhaodecdbbaaGreatDoor
open Go.Cx
attribute [local irreducible] Go.Cx.CX Go.Cx.CC Go.Cx.CQ Go.Cx.PS Go.Cx.Ctr Go.Cx.CH
set_option maxRecDepth 10000
theorem r8ins_c (l : List RwV) (hl : l.length ≤ 1073741824) (a : Option Addr) (c : Nat) (q : RwV) : Ctr Tryz.prog 41 [.slice a l.length c, .agg q.cells.toArray] [] (fun x => rwAt a l x)
    (fun v M => ∃ a' c' r, r = pgK rwKey q false l ∧ v = .slice a' (List.length r) c' ∧ M = [own 71 2 a' (List.length r) c' (rows RwV.cells r)]) := by
  have hfl := pgK_len rwKey q false l
  obtain ⟨F, hF⟩ : ∃ F, F = pgK rwKey q false l := ⟨_, rfl⟩
  rw [← hF] at hfl ⊢
  simp only [Bool.false_eq_true, if_false] at hfl
  refine Ctr.intro Tryz.func41 rfl Tryz.ntmps41 rfl fun x w hp => ?_
  refine wk ?_
  (refine CX.boxA (vs := q.cells) ?_; intro bx)
  refine CX.ownNil 71 2 ?_
  refine wk ?_
  refine CC.loop (X := Nat × Bool × Option Addr × Nat × List RwV) (fun s => [(7, .int .i64 (s.1 : Int)), (6, .bool s.2.1), (5, .slice s.2.2.1 s.2.2.2.2.length s.2.2.2.1), (3, .pointer (some ⟨bx, 0, none⟩)), (0, .slice a l.length c)])
    (fun s => [own 71 2 s.2.2.1 s.2.2.2.2.length s.2.2.2.1 (rows RwV.cells s.2.2.2.2), bk bx 71 q.cells, exact x]) (fun s => s.1 ≤ l.length ∧ s.2.2.2.2 ++ pgK rwKey q s.2.1 (l.drop s.1) = F) (fun s => l.length - s.1) (0, false, none, 0, []) ⟨Nat.zero_le _, by rw [hF]; rfl⟩ ⟨rfl, rfl, rfl, rfl, rfl, trivial⟩ (by exact selA) ?_
  rintro ⟨i, d, a5, c5, o⟩ ⟨hi, ho⟩
  dsimp only at hi ho ⊢
  have hol : o.length ≤ l.length + 1 := by have := congrArg List.length ho; rw [List.length_append] at this; omega
  by_cases h1 : i < l.length
  rotate_left
  · rw [List.drop_of_length_le (by omega), pgK] at ho
    cases d with
    | true =>
      rw [if_pos rfl, List.append_nil] at ho
      subst ho
      refine wk ?_
      (apply CQ.end1; (· rfl); (· exact .tmp rfl))
      · exact ⟨a5, c5, o, rfl, rfl, rfl⟩
      · exact selA
    | false =>
      rw [if_neg (by simp)] at ho
      have e2 : rows RwV.cells o ++ q.cells = rows RwV.cells F := by rw [← ho, rows_append]; simp [rows]
      have e3 : o.length + 1 = F.length := by rw [← ho]; simp
      refine wk ?_
      (apply CX.ps; (· apply PS.loadG (vs := q.cells); (· rfl); (· rfl); (· exact CellsAt.all (by first | exact pickA | exact updA)); (· rfl)))
      refine CX.buildSl (parts := [(0, _)]) (vs := [(0, .agg q.cells.toArray)]) (out := q.cells) rfl rfl (by decide) (by simp [fillL, Value.cells, setL, RwV.cells]) fun bq => ?_
      refine CX.append (m := 1) (news := q.cells) rfl rfl rfl (by first | exact pickA | exact updA) (RdS.pick (b := bq) (o := 0) (by first | exact pickA | exact updA) rfl (one_all rfl) rfl) (by omega) (fun h => by cases h) ?_
      intro a3 c3
      rw [e2, e3]
      refine wk ?_
      (apply CQ.end1; (· rfl); (· exact .tmp rfl))
      · exact ⟨a3, c3, F, rfl, rfl, rfl⟩
      · exact selA
  obtain ⟨g, off, rfl⟩ := rwAt_some hp (by omega)
  rw [List.drop_eq_getElem_cons h1, pgK_cons, ← List.append_assoc, ← List.append_assoc] at ho
  apply CC.share (P := Tryz.prog) (n := 52) (e0 := w) (X := Bool × Option Addr × Nat × List RwV) (fun s => [(7, .int .i64 (i : Int)), (6, .bool s.1), (5, .slice s.2.1 s.2.2.2.length s.2.2.1), (3, .pointer (some ⟨bx, 0, none⟩)), (0, .slice (some ⟨g, off, none⟩) l.length c)])
    (fun s => [own 71 2 s.2.1 s.2.2.2.length s.2.2.1 (rows RwV.cells s.2.2.2), bk bx 71 q.cells, exact x]) (fun s => s.2.2.2 ++ (if rwKey l[i] = rwKey q then [] else [l[i]]) ++ pgK rwKey q s.1 (l.drop (i + 1)) = F)
  · intro fin
    cases d with
    | true =>
      rw [if_neg (by simp), List.append_nil, Bool.true_or] at ho
      refine wk ?_
      refine CC.draw [(0, 0), (1, 0), (2, 0), (3, 0), (4, 0), (5, 0), (6, 0), (7, 1), (8, 0), (9, 1), (10, 0), (11, 0)] mixed rfl (by kernel_rfl) (by kernel_rfl) [bk bx 71 q.cells, exact x] ?_
      refine hwk ?_
      refine wk ?_
      have f := fin (true, a5, c5, o) ho
      apply CC.weak (h := f)
      · exact ⟨rfl, rfl, rfl, rfl, rfl, trivial⟩
      · exact selA
    | false =>
      rw [Bool.false_or] at ho
      by_cases hk : klt (rwKey l[i]) (rwKey q) = true
      · rw [if_neg (by simp [hk]), List.append_nil, hk] at ho
        refine wk ?_
        refine CC.draw [(0, 0), (1, 0), (2, 0), (3, 0), (4, 0), (5, 0), (6, 0), (7, 1), (8, 0), (9, 1), (10, 0), (11, 0)] mixed rfl (by kernel_rfl) (by kernel_rfl) [bk bx 71 q.cells, exact x] ?_
        refine hwk ?_
        refine CH.pure rfl (PS.indexAddr (j := i) rfl rfl rfl rfl h1) ?_
        refine hwk ?_
        (apply CH.read; (· rfl); (· apply PS.load (v := sv (l[i]).key); (· rfl); (· rfl); (· exact hp.cell (by first | exact pickA | exact updA) h1 0 rfl)); (· exact selA))
        refine hwk ?_
        refine CH.pure rfl (PS.geqStr (a := (l[i]).key) (b := q.key) false (by rw [show klt (l[i]).key q.key = true from hk]; rfl)) ?_
        refine hwk ?_
        refine wk ?_
        have f := fin (false, a5, c5, o) ho
        apply CC.weak (h := f)
        · exact ⟨rfl, rfl, rfl, rfl, rfl, trivial⟩
        · exact selA
      · have hk' : klt (rwKey l[i]) (rwKey q) = false := by simpa using hk
        rw [if_pos ⟨rfl, hk'⟩, hk'] at ho
        have e2 : rows RwV.cells o ++ q.cells = rows RwV.cells (o ++ [q]) := by rw [rows_append]; simp [rows]
        have e3 : o.length + 1 = (o ++ [q]).length := by simp
        refine wk ?_
        refine CC.draw [(0, 0), (1, 0), (2, 0), (3, 0), (4, 0), (5, 0), (6, 0), (7, 1), (8, 0), (9, 1), (10, 0), (11, 0)] mixed rfl (by kernel_rfl) (by kernel_rfl) [bk bx 71 q.cells, exact x] ?_
        refine hwk ?_
        refine CH.pure rfl (PS.indexAddr (j := i) rfl rfl rfl rfl h1) ?_
        refine hwk ?_
        (apply CH.read; (· rfl); (· apply PS.load (v := sv (l[i]).key); (· rfl); (· rfl); (· exact hp.cell (by first | exact pickA | exact updA) h1 0 rfl)); (· exact selA))
        refine hwk ?_
        refine CH.pure rfl (PS.geqStr (a := (l[i]).key) (b := q.key) true (by rw [show klt (l[i]).key q.key = false from hk']; rfl)) ?_
        refine hwk ?_
        refine wk ?_
        (apply CX.ps; (· apply PS.loadG (vs := q.cells); (· rfl); (· rfl); (· exact CellsAt.all (by first | exact pickA | exact updA)); (· rfl)))
        refine CX.buildSl (parts := [(0, _)]) (vs := [(0, .agg q.cells.toArray)]) (out := q.cells) rfl rfl (by decide) (by simp [fillL, Value.cells, setL, RwV.cells]) fun bq => ?_
        refine CX.append (m := 1) (news := q.cells) rfl rfl rfl (by first | exact pickA | exact updA) (RdS.pick (b := bq) (o := 0) (by first | exact pickA | exact updA) rfl (one_all rfl) rfl) (by omega) (fun h => by cases h) ?_
        intro a3 c3
        rw [e2, e3]
        refine wk ?_
        have f := fin (true, a3, c3, o ++ [q]) ho
        apply CC.weak (h := f)
        · exact ⟨rfl, rfl, rfl, rfl, rfl, trivial⟩
        · exact selA
  · rintro ⟨d', a6, c6, o'⟩ ho'
    dsimp only at ho' ⊢
    have hol' : o'.length ≤ l.length + 1 := by have := congrArg List.length ho'; rw [List.length_append, List.length_append] at this; omega
    by_cases hk : rwKey l[i] = rwKey q
    · rw [if_pos hk, List.append_nil] at ho'
      refine CC.draw [(0, 0), (1, 0), (2, 0), (3, 0), (4, 1), (5, 0), (6, 1), (7, 0)] mixed rfl (by kernel_rfl) (by kernel_rfl) [bk bx 71 q.cells, exact x] ?_
      refine hwk ?_
      refine CH.pure rfl (PS.indexAddr (j := i) rfl rfl rfl rfl h1) ?_
      refine hwk ?_
      (apply CH.read; (· rfl); (· apply PS.load (v := sv (l[i]).key); (· rfl); (· rfl); (· exact hp.cell (by first | exact pickA | exact updA) h1 0 rfl)); (· exact selA))
      refine hwk ?_
      refine CH.pure rfl ((PS.neqStr (a := (l[i]).key) (b := q.key) rfl rfl rfl).toF (fun h => h hk)) ?_
      refine hwk ?_
      refine wk ?_
      exact CQ.round (x := (i, d, a5, c5, o)) (i + 1, d', a6, c6, o') ⟨h1, ho'⟩ (by dsimp only; omega) ⟨eqI (by omega), rfl, rfl, rfl, rfl, trivial⟩ (by exact selA)
    · rw [if_neg hk] at ho'
      have e2 : rows RwV.cells o' ++ (l[i]).cells = rows RwV.cells (o' ++ [l[i]]) := by rw [rows_append]; simp [rows]
      have e3 : o'.length + 1 = (o' ++ [l[i]]).length := by simp
      refine CC.draw [(0, 0), (1, 0), (2, 0), (3, 0), (4, 1), (5, 0), (6, 1), (7, 0)] mixed rfl (by kernel_rfl) (by kernel_rfl) [bk bx 71 q.cells, exact x] ?_
      refine hwk ?_
      refine CH.pure rfl (PS.indexAddr (j := i) rfl rfl rfl rfl h1) ?_
      refine hwk ?_
      (apply CH.read; (· rfl); (· apply PS.load (v := sv (l[i]).key); (· rfl); (· rfl); (· exact hp.cell (by first | exact pickA | exact updA) h1 0 rfl)); (· exact selA))
      refine hwk ?_
      refine CH.pure rfl ((PS.neqStr (a := (l[i]).key) (b := q.key) rfl rfl rfl).toT hk) ?_
      refine hwk ?_
      refine wk ?_
      (refine CX.indexA (i) ?_ ?_; (· exact h1))
      (apply CX.ps; (· apply PS.loadG (vs := (l[i]).cells); (· rfl); (· rfl); (· exact hp.cells (by first | exact pickA | exact updA) h1); (· rfl)))
      refine CX.buildSl (parts := [(0, _)]) (vs := [(0, .agg (l[i]).cells.toArray)]) (out := (l[i]).cells) rfl rfl (by decide) (by simp [fillL, Value.cells, setL, RwV.cells]) fun bq => ?_
      refine CX.append (m := 1) (news := (l[i]).cells) rfl rfl rfl (by first | exact pickA | exact updA) (RdS.pick (b := bq) (o := 0) (by first | exact pickA | exact updA) rfl (one_all rfl) rfl) (by omega) (fun h => by cases h) ?_
      intro a3 c3
      rw [e2, e3]
      refine wk ?_
      exact CQ.round (x := (i, d, a5, c5, o)) (i + 1, d', a3, c3, o' ++ [l[i]]) ⟨h1, ho'⟩ (by dsimp only; omega) ⟨eqI (by omega), rfl, rfl, rfl, rfl, trivial⟩ (by exact selA)
end Go.Proofs.YtlckhaodecdbbaaGreatDoor
