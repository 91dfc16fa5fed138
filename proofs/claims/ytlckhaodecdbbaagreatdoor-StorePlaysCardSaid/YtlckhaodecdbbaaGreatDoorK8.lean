/- Part K8: Jw, Pe, Pf, Pg, L9c, Ph, Cw, L9p, Lq. -/
import Derived.Test.YtlckhaodecdbbaaGreatDoorK7
import Derived.Test.YtlckhaodecdbbaaGreatDoorK4
import Derived.Test.YtlckhaodecdbbaaGreatDoorK6
import Derived.Test.YtlckhaodecdbbaaGreatDoorK2
set_option linter.unusedVariables false
set_option linter.unusedSimpArgs false
/-! The document's journal (ref 07): its methods, in the program. -/
namespace Go.Cx
theorem layM_run (J : JM) (at_ : Nat) (l : List Blk) (h : HdM) (D : DS) : (layM J at_ l h D).1 = (runM (layS J at_ l h) D).1 ∧ (layM J at_ l h D).2.2 = (runM (layS J at_ l h) D).2 := by
  unfold layM
  by_cases e : (runM (layS J at_ l h) D).1 = 0
  · rw [if_neg (by simp [e])]; exact ⟨e.symm, rfl⟩
  · rw [if_pos e]; exact ⟨rfl, rfl⟩
/-- A head of two blocks may be. -/
theorem newH_may {A B : Blk} (hA : WB A) (hB : WB B) : (newH A B).2.1.may := by
  by_cases h : (newH A B).2.2 = 0
  · exact newH_WBmay hA hB h
  · rw [newH_eq] at h ⊢
    split
    · show HdM.z.may; decide
    · rename_i h1
      rw [if_neg h1] at h
      split at h <;> simp at h
theorem parse_err : ∀ (k : Nat) (l : List Blk) (all : Blk), (parseM k l all).2 = 0 ∨ (parseM k l all).2 = 5
  | 0, l, all => by unfold parseM; split <;> simp
  | k + 1, l, all => by
    unfold parseM
    split
    · simp
    · split
      · simp
      · exact parse_err k _ _
theorem rdAll_ok {D : DS} (hd : D.dark = false) {b : Nat} (hb : b < 2) (hl : 64 ≤ D.sure.length) : ∀ (n i : Nat) (acc : Blk), i + n ≤ bankM D → (rdAll D (firstM D b) i n acc).2 = 0
  | 0, _, _, _ => rfl
  | n + 1, i, acc, h => by
    rw [rdAll_go (lit_at hd hb hl (by omega))]
    exact rdAll_ok hd hb hl n (i + 1) _ (by omega)
theorem read_err {D : DS} (hd : D.dark = false) (hl : 64 ≤ D.sure.length) {J : JM} (hm : J.h.may) : (readM J D).2 = 0 ∨ (readM J D).2 = 5 := by
  unfold readM
  split
  · exact .inr rfl
  · rename_i h
    rw [if_neg (by simp [rdAll_ok hd hm.1 hl J.h.blocks 0 [] (by omega)])]
    exact parse_err _ _ _
theorem lit_both {D : DS} (hd : D.dark = false) (hl : 64 ≤ D.sure.length) : bothM D = ((D.read 0).1, (D.read 1).1, 0) := by
  have h0 : D.read 0 = (D.get 0, 0) := lit_read hd (k := 0) (by omega)
  have h1 : D.read 1 = (D.get 1, 0) := lit_read hd (k := 1) (by omega)
  unfold bothM
  rw [h0, h1]; simp
theorem new_zz : newH zblk zblk = (0, HdM.z, 7) := by decide +kernel
/-- What is laid behind the two heads leaves them. -/
theorem new_kept {D : DS} {at_ : Nat} {l : List Blk} (c : Cx.Calm D) (hS : ∀ b ∈ D.sure, WB b) (hl : ∀ b ∈ l, WB b) (h64 : 64 ≤ D.sure.length) (h2 : 2 ≤ at_) (hi : at_ + l.length ≤ D.sure.length) :
    newH ((settleL D.sure [] 128 0 ((List.range l.length).map fun i => (at_ + i, l.getD i []))).getD 0 []) ((settleL D.sure [] 128 0 ((List.range l.length).map fun i => (at_ + i, l.getD i []))).getD 1 []) = newH (D.read 0).1 (D.read 1).1 := by
  have r0 : D.read 0 = (D.sure.getD 0 [], 0) := c.read (k := 0) (by omega)
  have r1 : D.read 1 = (D.sure.getD 1 [], 0) := c.read (k := 1) (by omega)
  rw [settle_puts D.sure at_ l hS hl hi 0 l.length (Nat.le_refl _), settle_puts D.sure at_ l hS hl hi 1 l.length (Nat.le_refl _), if_neg (by omega), if_neg (by omega), r0, r1]
end Go.Cx
namespace Go.Proofs.YtlckhaodecdbbaaGreatDoor
open Go.Cx
attribute [local irreducible] Go.Cx.CX Go.Cx.CC Go.Cx.CQ Go.Cx.PS Go.Cx.Ctr Go.Cx.CH
set_option maxRecDepth 10000
theorem r7room_c (q r : Nat) (D : DS) {N : Nat} (h : D.wf N) (hN : N < 1000000) : Ctr Tryz.prog 70 [.pointer (some ⟨q, 0, none⟩)] [rjA q r, rdisk r D] (fun _ => True) (fun v M => v = .int .i64 ((bankM D : Int) - ((newR D).2.1.blocks : Int)) ∧ M = [rjA q r, rdisk r D]) := by
  have hbank : bankM D ≤ 2048 := by have := h.hi; unfold bankM; omega
  have hmay : (newR D).2.1.may := newH_may (read_WB h 0) (read_WB h 1)
  have hn := r7newest_c q r D h hN
  generalize newR D = u at *
  obtain ⟨m1, m2, m3⟩ := hmay
  refine Ctr.intro Tryz.func70 rfl Tryz.ntmps70 rfl fun x w hp => ?_
  refine wk ?_
  refine CX.callA (hn) ?_
  rintro _ _ ⟨rfl, rfl⟩
  refine wk ?_
  refine CX.allocZ (hc HdM.z) ?_ (hv := rfl)
  intro q4
  refine wk ?_
  (refine CX.storeB (vs := hc u.2.1) ?_ ?_ ?_ ?_; (· rfl); (· rfl); (· exact one_all rfl))
  refine wk ?_
  refine CC.draw [(0, 0), (2, 0), (3, 1), (4, 0), (1, 2), (5, 0), (6, 0)] mixed rfl (by kernel_rfl) (by kernel_rfl) [bk q4 121 (hc u.2.1)] ?_
  refine hwk ?_
  refine CH.chain rfl fun K hK => ?_
  refine CX.callA (r7bank_c q r D h) ?_
  rintro _ _ ⟨rfl, rfl⟩
  (refine CX.nil ?_; refine CQ.thenK ?_; apply hK; (· exact selA); clear hK K)
  refine hwk ?_
  refine wk ?_
  ((apply CQ.end1; (· rfl); (· exact .tmp rfl)); (· exact ⟨rfl, rfl⟩); (· exact selA))
theorem r7bat_c (q r : Nat) (D : DS) {N : Nat} (h : D.wf N) (hN : N < 1000000) (hlit : D.dark = false) : Ctr Tryz.prog 68 [.pointer (some ⟨q, 0, none⟩)] [rjA q r, rdisk r D] (fun _ => True)
    (fun v M => ∃ a c l, v = .slice a l.length c ∧ M = [rjA q r, rdisk r D, bsA a l] ∧ l.length ≤ 4294967296 ∧ ((readM ⟨0, (newR D).2.1⟩ D).2 = 0 → l.map SlB.b = (readM ⟨0, (newR D).2.1⟩ D).1)) := by
  have hmay : (newR D).2.1.may := newH_may (read_WB h 0) (read_WB h 1)
  have hn := r7newest_c q r D h hN
  generalize newR D = u at *
  have hb := r7batches_c q r u.2.1 hmay D h hN hlit
  unfold RBatP at hb
  refine Ctr.intro Tryz.func68 rfl Tryz.ntmps68 rfl fun x w hp => ?_
  refine wk ?_
  refine CX.callA (hn) ?_
  rintro _ _ ⟨rfl, rfl⟩
  refine wk ?_
  refine CX.allocZ (hc HdM.z) ?_ (hv := rfl)
  intro q4
  refine wk ?_
  (refine CX.storeB (vs := hc u.2.1) ?_ ?_ ?_ ?_; (· rfl); (· rfl); (· exact one_all rfl))
  refine wk ?_
  (apply CX.ps; (· apply PS.loadG (vs := hc u.2.1); (· rfl); (· rfl); (· exact CellsAt.all (by first | exact pickA | exact updA)); (· rfl)))
  refine CX.callA (hb) ?_
  rintro _ _ ⟨a, c, l, ok, rfl, rfl, hl, h1, -⟩
  refine wk ?_
  (apply CQ.end1; (· rfl); (· exact .tmp rfl))
  · exact ⟨a, c, l, rfl, rfl, hl, fun h => (h1 h).2⟩
  · exact selA
theorem r7app_c (q r : Nat) (J : JM) (hJ : J.n < 4611686018427387904) (hm : J.h.may) (D : DS) {N : Nat} (h : D.wf N) (hN : N < 990000) (cm : Cx.Calm D) (hnew : newR D = (J.n, J.h, 0)) (hroom : J.h.blocks ≤ bankM D) (b : Blk) (hb : b.length ≤ 1048576) (a : Option Addr) (cap : Nat) (hn : a = none → b.length = 0 ∧ cap = 0) :
    Ctr Tryz.prog 59 [.pointer (some ⟨q, 0, none⟩), .slice a b.length cap] [rjA q r, rdisk r D] (fun x => rdx a b.length (cb b) x) (fun v M => v = .int .i64 (appendM J D b).1 ∧ M = [rjA q r, rdisk r (appendM J D b).2.2]) := by
  have hbank : bankM D ≤ 2047 := by have := h.hi; unfold bankM; omega
  have h64 := h.lo
  obtain ⟨m1, m2, m3⟩ := hm
  have hmul : J.h.bank * bankM D ≤ 2 * 2048 := Nat.mul_le_mul (by omega) (by omega)
  have hfst : firstM D J.h.bank ≤ 4098 := by unfold firstM; omega
  have hf2 : 2 ≤ firstM D J.h.bank := by unfold firstM; omega
  have hcn := r7newest_c q r D h (by omega)
  rw [hnew] at hcn
  have hnew1 : (newH (D.read 0).1 (D.read 1).1).1 = J.n := by have := congrArg Prod.fst hnew; exact this
  have hdark : rdisk r D = rdisk r D := rfl
  have hcl := cut_pos b
  have hcl2 := cut_len b
  have hcW : ∀ x ∈ cutB b, WB x := chop_WB _
  have hap : appendM J D b = if (bankM D : Int) - (J.h.blocks : Int) < ((cutB b).length : Int) then (10, J, D) else layM J (firstM D J.h.bank + J.h.blocks) (cutB b) ⟨J.h.bank, J.h.blocks + (cutB b).length, J.h.batches + 1⟩ D := by
    unfold appendM; rw [asked_ok cm hb]; simp
  unfold rjA at hcn
  have hbl := r7blocks_c b hb a cap hn
  refine Ctr.intro Tryz.func59 rfl Tryz.ntmps59 rfl fun x w hp => ?_
  refine wk ?_
  refine CX.callA (hbl) ?_ (hpre := by exact rdx_ex (by first | exact pickA | exact updA) hp)
  rintro _ _ ⟨a', c', rfl, rfl⟩
  generalize cutB b = l at *
  have hk : J.h.blocks + l.length ≤ bankM D → HdM.may ⟨J.h.bank, J.h.blocks + l.length, J.h.batches + 1⟩ := fun h => ⟨m1, by dsimp only; omega, by dsimp only; omega⟩
  have hend : J.h.blocks + l.length ≤ bankM D → firstM D J.h.bank + J.h.blocks + l.length ≤ D.sure.length := fun hr => by
    have := first_le (S := D.sure) (b := J.h.bank) (i := J.h.blocks + l.length - 1) h64 m1 (by rw [← bank_eq]; omega)
    rw [← first_eq] at this; omega
  unfold rjA
  refine wk ?_
  refine CX.callA (rdark_c r D) ?_
  rw [cm.lit]
  rintro _ _ ⟨rfl, rfl⟩
  refine wk ?_
  refine CX.callA (hcn) ?_
  rintro _ _ ⟨rfl, rfl⟩
  refine wk ?_
  refine CX.allocZ (hc HdM.z) ?_ (hv := rfl)
  intro q7
  refine wk ?_
  (refine CX.storeB (vs := hc J.h) ?_ ?_ ?_ ?_; (· rfl); (· rfl); (· exact one_all rfl))
  refine wk ?_
  have hcb := r7bank_c q r D h
  have hcf := r7first_c q r D J.h.bank (by omega) h
  unfold rjA at hcb hcf
  refine CC.draw [(0, 0), (1, 0), (2, 0), (4, 0), (5, 1), (6, 0), (3, 2), (7, 0), (8, 0)] mixed rfl (by kernel_rfl) (by kernel_rfl) [bk q7 121 (hc J.h)] ?_
  refine hwk ?_
  refine CH.chain rfl fun K hK => ?_
  refine CX.callA (hcb) ?_
  rintro _ _ ⟨rfl, rfl⟩
  (refine CX.nil ?_; refine CQ.thenK ?_; apply hK; (· exact selA); clear hK K)
  by_cases h1 : (bankM D : Int) - (J.h.blocks : Int) < (l.length : Int)
  · rw [if_pos h1] at hap
    rw [hap]
    refine hwk ?_
    refine wk ?_
    ((apply CQ.end1; (· rfl); (· exact .tmp rfl)); (· exact ⟨rfl, rfl⟩); (· exact selA))
  rw [if_neg h1] at hap
  obtain ⟨e1, e2⟩ := layM_run J (firstM D J.h.bank + J.h.blocks) l ⟨J.h.bank, J.h.blocks + l.length, J.h.batches + 1⟩ D
  rw [hap, e1, e2]
  have hcy := r7lay_c q r J (firstM D J.h.bank + J.h.blocks) (by omega) l hcW (by omega) a' c' ⟨J.h.bank, J.h.blocks + l.length, J.h.batches + 1⟩ (hk (by omega)) D h (by omega) cm (hend (by omega)) hJ
    (by rw [new_kept cm h.wb hcW h64 (by omega) (hend (by omega))]; exact hnew1)
  unfold rjA at hcy
  generalize runM (layS J (firstM D J.h.bank + J.h.blocks) l ⟨J.h.bank, J.h.blocks + l.length, J.h.batches + 1⟩) D = u at *
  refine hwk ?_
  refine wk ?_
  refine CC.draw [(0, 0), (1, 0), (2, 0), (3, 1), (5, 0), (6, 1), (7, 0), (9, 0), (10, 0), (11, 1), (12, 0), (13, 1), (14, 0), (15, 0), (16, 0), (17, 0), (18, 0), (19, 1), (20, 0), (21, 0), (4, 2), (8, 0), (22, 2), (23, 0)] mixed rfl (by kernel_rfl) (by kernel_rfl) [bk q7 121 (hc J.h)] ?_
  refine hwk ?_
  refine CH.pure rfl (PS.build (vs := [(0, .int .u8 (J.h.bank : Int)), (1, .int .u32 ((J.h.blocks : Int) + (l.length : Int))), (2, .int .u32 ((J.h.batches : Int) + 1))]) (out := hc ⟨J.h.bank, J.h.blocks + l.length, J.h.batches + 1⟩) rfl rfl rfl) ?_
  refine CH.chain rfl fun K hK => ?_
  refine CX.callA (hcf) ?_
  rintro _ _ ⟨rfl, rfl⟩
  (refine CX.nil ?_; refine CQ.thenK ?_; apply hK; (· exact selA); clear hK K)
  refine hwk ?_
  refine CH.chain rfl fun K hK => ?_
  refine CX.callA (hcy) ?_ (hpre := by exact rdx_RdS (RdS.own (by first | exact pickA | exact updA) (one_flat _) (by omega)))
  rintro _ _ ⟨rfl, rfl⟩
  (refine CX.nil ?_; refine CQ.thenK ?_; apply hK; (· exact selA); clear hK K)
  refine hwk ?_
  refine wk ?_
  ((apply CQ.end1; (· rfl); (· exact .tmp rfl)); (· exact ⟨rfl, rfl⟩); (· exact selA))
theorem r7rep_c (q r : Nat) (J : JM) (hJ : J.n < 4611686018427387904) (hm : J.h.may) (D : DS) {N : Nat} (h : D.wf N) (hN : N < 990000) (cm : Cx.Calm D) (hnew : newR D = (J.n, J.h, 0)) (b : Blk) (hb : b.length ≤ 1048576) (a : Option Addr) (cap : Nat) (hn : a = none → b.length = 0 ∧ cap = 0) :
    Ctr Tryz.prog 62 [.pointer (some ⟨q, 0, none⟩), .slice a b.length cap] [rjA q r, rdisk r D] (fun x => rdx a b.length (cb b) x) (fun v M => v = .int .i64 (replaceM J D b).1 ∧ M = [rjA q r, rdisk r (replaceM J D b).2.2]) := by
  have hbank : bankM D ≤ 2047 := by have := h.hi; unfold bankM; omega
  have h64 := h.lo
  obtain ⟨m1, m2, m3⟩ := hm
  have hmul : (1 - J.h.bank) * bankM D ≤ 2 * 2048 := Nat.mul_le_mul (by omega) (by omega)
  have hfst : firstM D (1 - J.h.bank) ≤ 4098 := by unfold firstM; omega
  have hf2 : 2 ≤ firstM D (1 - J.h.bank) := by unfold firstM; omega
  have hcn := r7newest_c q r D h (by omega)
  rw [hnew] at hcn
  have hnew1 : (newH (D.read 0).1 (D.read 1).1).1 = J.n := by have := congrArg Prod.fst hnew; exact this
  have hcl := cut_pos b
  have hcl2 := cut_len b
  have hcW : ∀ x ∈ cutB b, WB x := chop_WB _
  have hap : replaceM J D b = if bankM D < (cutB b).length then (10, J, D) else layM J (firstM D (1 - J.h.bank)) (cutB b) ⟨1 - J.h.bank, (cutB b).length, 1⟩ D := by
    unfold replaceM; rw [asked_ok cm hb]; simp
  unfold rjA at hcn
  have hbl := r7blocks_c b hb a cap hn
  refine Ctr.intro Tryz.func62 rfl Tryz.ntmps62 rfl fun x w hp => ?_
  refine wk ?_
  refine CX.callA (hbl) ?_ (hpre := by exact rdx_ex (by first | exact pickA | exact updA) hp)
  rintro _ _ ⟨a', c', rfl, rfl⟩
  generalize cutB b = l at *
  have hk : l.length ≤ bankM D → HdM.may ⟨1 - J.h.bank, l.length, 1⟩ := fun h => ⟨by dsimp only; omega, by dsimp only; omega, by dsimp only; omega⟩
  have hend : l.length ≤ bankM D → firstM D (1 - J.h.bank) + l.length ≤ D.sure.length := fun hr => by
    have := first_le (S := D.sure) (b := 1 - J.h.bank) (i := l.length - 1) h64 (by omega) (by rw [← bank_eq]; omega)
    rw [← first_eq] at this; omega
  have hcb := r7bank_c q r D h
  have hcf := r7first_c q r D (1 - J.h.bank) (by omega) h
  unfold rjA at hcb hcf
  unfold rjA
  refine wk ?_
  refine CX.callA (rdark_c r D) ?_
  rw [cm.lit]
  rintro _ _ ⟨rfl, rfl⟩
  refine wk ?_
  refine CX.callA (hcb) ?_
  rintro _ _ ⟨rfl, rfl⟩
  by_cases h1 : bankM D < l.length
  · rw [if_pos h1] at hap
    rw [hap]
    refine wk ?_
    ((apply CQ.end1; (· rfl); (· exact .tmp rfl)); (· exact ⟨rfl, rfl⟩); (· exact selA))
  rw [if_neg h1] at hap
  refine wk ?_
  refine CX.callA (hcn) ?_
  rintro _ _ ⟨rfl, rfl⟩
  refine wk ?_
  refine CX.allocZ (hc HdM.z) ?_ (hv := rfl)
  intro q7
  refine wk ?_
  (refine CX.storeB (vs := hc J.h) ?_ ?_ ?_ ?_; (· rfl); (· rfl); (· exact one_all rfl))
  refine wk ?_
  obtain ⟨e1, e2⟩ := layM_run J (firstM D (1 - J.h.bank)) l ⟨1 - J.h.bank, l.length, 1⟩ D
  rw [hap, e1, e2]
  have hcy := r7lay_c q r J (firstM D (1 - J.h.bank)) (by omega) l hcW (by omega) a' c' ⟨1 - J.h.bank, l.length, 1⟩ (hk (by omega)) D h (by omega) cm (hend (by omega)) hJ
    (by rw [new_kept cm h.wb hcW h64 (by omega) (hend (by omega))]; exact hnew1)
  unfold rjA at hcy
  generalize runM (layS J (firstM D (1 - J.h.bank)) l ⟨1 - J.h.bank, l.length, 1⟩) D = u at *
  refine CC.draw [(0, 0), (1, 0), (2, 0), (3, 1), (4, 0), (6, 0), (7, 0), (8, 1), (9, 0), (10, 0), (11, 0), (12, 0), (13, 0), (5, 2), (14, 2), (15, 0)] mixed rfl (by kernel_rfl) (by kernel_rfl) [bk q7 121 (hc J.h)] ?_
  refine hwk ?_
  rw [show (1 : Int) - (J.h.bank : Int) = ((1 - J.h.bank : Nat) : Int) by omega]
  refine CH.pure rfl (PS.build (vs := [(0, .int .u8 ((1 - J.h.bank : Nat) : Int)), (1, .int .u32 (l.length : Int)), (2, .int .u32 1)]) (out := hc ⟨1 - J.h.bank, l.length, 1⟩) rfl rfl rfl) ?_
  refine CH.chain rfl fun K hK => ?_
  refine CX.callA (hcf) ?_
  rintro _ _ ⟨rfl, rfl⟩
  (refine CX.nil ?_; refine CQ.thenK ?_; apply hK; (· exact selA); clear hK K)
  refine hwk ?_
  refine CH.chain rfl fun K hK => ?_
  refine CX.callA (hcy) ?_ (hpre := by exact rdx_RdS (RdS.own (by first | exact pickA | exact updA) (one_flat _) (by omega)))
  rintro _ _ ⟨rfl, rfl⟩
  (refine CX.nil ?_; refine CQ.thenK ?_; apply hK; (· exact selA); clear hK K)
  refine hwk ?_
  refine wk ?_
  ((apply CQ.end1; (· rfl); (· exact .tmp rfl)); (· exact ⟨rfl, rfl⟩); (· exact selA))
def RMadeP (r : Nat) (D : DS) (v : Value) (M : List Assn) : Prop :=
  ((makeM D).1 ≠ 0 → v = .tuple #[.pointer none, .int .i64 (makeM D).1] ∧ M = [rdisk r (makeM D).2.2]) ∧
    ((makeM D).1 = 0 → ∃ q, v = .tuple #[.pointer (some ⟨q, 0, none⟩), .int .i64 0] ∧ M = [rjA q r, rdisk r (makeM D).2.2])
theorem r7make_c (r : Nat) (D : DS) {N : Nat} (h : D.wf N) (hN : N < 990000) (cm : Cx.Calm D) : Ctr Tryz.prog 98 [.pointer (some ⟨r, 0, none⟩)] [rdisk r D] (fun _ => True) (RMadeP r D) := by
  have h64 := h.lo
  unfold RMadeP rjA
  refine Ctr.intro Tryz.func98 rfl Tryz.ntmps98 rfl fun x w hp => ?_
  refine wk ?_
  refine CX.callA (rdark_c r D) ?_
  rw [cm.lit]
  rintro _ _ ⟨rfl, rfl⟩
  refine wk ?_
  refine CX.ps (PS.build (vs := [(0, .pointer (some ⟨r, 0, none⟩))]) (out := [.pointer (some ⟨r, 0, none⟩)]) rfl rfl rfl) ?_
  (refine CX.boxA (vs := [.pointer (some ⟨r, 0, none⟩)]) ?_; intro q)
  refine wk ?_
  refine CX.makeSl (l := 2) rfl rfl rfl rfl (by decide) fun q2 => ?_
  have e0 : (madeCells (Value.agg (List.replicate 128 (.int .u8 0) : List Value).toArray).cells (2 * 128)).toList = flat [zblk, zblk] := by
    have h1 := made_rep (.int .u8 0) 128 (2 * 128) (by omega)
    have h2 := flat_zs 2
    simp only [Value.cells]
    rw [h1, ← h2]; rfl
  rw [e0]
  (apply CX.ps; (· apply PS.build (vs := []) (out := hc HdM.z); (· rfl); (· rfl); (· rfl)))
  have hzz : ∀ b ∈ [zblk, zblk], WB b := fun b hb => by simp at hb; subst hb; exact WB_z
  have hcy := r7lay_c q r ⟨0, HdM.z⟩ 0 (by decide) [zblk, zblk] hzz (by decide) (some ⟨q2, 0, none⟩) 2 HdM.z (by decide) D h (by show N + 2 + 3 < 999990; omega) cm (by show 0 + 2 ≤ _; omega) (by decide)
    (by
      have g0 := settle_puts D.sure 0 [zblk, zblk] h.wb hzz (by show 0 + 2 ≤ _; omega) 0 2 (Nat.le_refl _)
      have g1 := settle_puts D.sure 0 [zblk, zblk] h.wb hzz (by show 0 + 2 ≤ _; omega) 1 2 (Nat.le_refl _)
      rw [if_pos (by omega)] at g0 g1
      have z0 : ([zblk, zblk] : List Blk).getD (0 - 0) [] = zblk := rfl
      have z1 : ([zblk, zblk] : List Blk).getD (1 - 0) [] = zblk := rfl
      rw [z0] at g0
      rw [z1] at g1
      show (newH ((settleL D.sure [] 128 0 ((List.range 2).map fun i => (0 + i, ([zblk, zblk] : List Blk).getD i []))).getD 0 []) ((settleL D.sure [] 128 0 ((List.range 2).map fun i => (0 + i, ([zblk, zblk] : List Blk).getD i []))).getD 1 [])).1 = 0
      rw [g0, g1, new_zz])
  unfold rjA at hcy
  have hmk : makeM D = layM ⟨0, HdM.z⟩ 0 [zblk, zblk] HdM.z D := rfl
  obtain ⟨e1, e2⟩ := layM_run ⟨0, HdM.z⟩ 0 [zblk, zblk] HdM.z D
  rw [← hmk] at e1 e2
  rw [← e1, ← e2] at hcy
  generalize makeM D = u at *
  refine CX.callA (hcy) ?_ (hpre := by exact rdx_RdS (RdS.own (by first | exact pickA | exact updA) (one_flat _) (by decide)))
  rintro _ _ ⟨rfl, rfl⟩
  by_cases he : u.1 = 0
  · rw [he]
    refine wk ?_
    (apply CQ.end2; (· rfl); (· exact .tmp rfl); (· exact .tmp rfl))
    · exact ⟨fun h => absurd rfl h, fun _ => ⟨q, rfl, rfl⟩⟩
    · exact selA
  · refine wk ?_
    (apply CQ.end2; (· rfl); (· exact .tmp rfl); (· exact .tmp rfl))
    · exact ⟨fun _ => ⟨rfl, rfl⟩, fun h => absurd h he⟩
    · exact selA
def ROpenP (r : Nat) (D : DS) (v : Value) (M : List Assn) : Prop :=
  ((openM D).1 ≠ 0 → v = .tuple #[.pointer none, .int .i64 (openM D).1] ∧ M = [rdisk r D]) ∧
  ((openM D).1 = 0 → ∃ q, v = .tuple #[.pointer (some ⟨q, 0, none⟩), .int .i64 0] ∧ M = [rjA q r, rdisk r D])
theorem r7open_c (r : Nat) (D : DS) {N : Nat} (h : D.wf N) (hN : N < 990000) (hlit : D.dark = false) : Ctr Tryz.prog 107 [.pointer (some ⟨r, 0, none⟩)] [rdisk r D] (fun _ => True) (ROpenP r D) := by
  have h64 := h.lo
  have hmay : (newR D).2.1.may := newH_may (read_WB h 0) (read_WB h 1)
  have hb2 := lit_both hlit h64
  have hn := fun q => r7newest_c q r D h (by omega)
  have hop : openM D = if (newR D).2.2 ≠ 0 ∨ 2305843009213693952 < (newR D).1 then (5, ⟨0, HdM.z⟩) else ((readM ⟨(newR D).1, (newR D).2.1⟩ D).2, ⟨(newR D).1, (newR D).2.1⟩) := by
    unfold openM; rw [hb2]; simp only [ne_eq, not_true_eq_false, if_false]; rfl
  unfold ROpenP rjA
  unfold rjA at hn
  generalize newR D = u at *
  have hre := read_err (J := ⟨0, u.2.1⟩) hlit h64 hmay
  have hbt := fun q => r7batches_c q r u.2.1 hmay D h (by omega) hlit
  unfold RBatP rjA at hbt
  have hrr : readM ⟨u.1, u.2.1⟩ D = readM ⟨0, u.2.1⟩ D := rfl
  rw [hrr] at hop
  generalize readM ⟨0, u.2.1⟩ D = rr at *
  refine Ctr.intro Tryz.func107 rfl Tryz.ntmps107 rfl fun x w hp => ?_
  refine wk ?_
  refine CX.callA (rdark_c r D) ?_
  rw [hlit]
  rintro _ _ ⟨rfl, rfl⟩
  refine wk ?_
  refine CX.ps (PS.build (vs := [(0, .pointer (some ⟨r, 0, none⟩))]) (out := [.pointer (some ⟨r, 0, none⟩)]) rfl rfl rfl) ?_
  (refine CX.boxA (vs := [.pointer (some ⟨r, 0, none⟩)]) ?_; intro q)
  refine wk ?_
  refine CX.callA (hn q) ?_
  rintro _ _ ⟨rfl, rfl⟩
  refine wk ?_
  refine CX.allocZ (hc HdM.z) ?_ (hv := rfl)
  intro q6
  refine wk ?_
  (refine CX.storeB (vs := hc u.2.1) ?_ ?_ ?_ ?_; (· rfl); (· rfl); (· exact one_all rfl))
  by_cases h1 : u.2.2 = 0
  rotate_left
  · rw [if_pos (.inl h1)] at hop
    rw [hop]
    refine wk ?_
    (apply CQ.end2; (· rfl); (· exact .tmp rfl); (· exact .tmp rfl))
    · exact ⟨fun _ => ⟨rfl, rfl⟩, (fun h => by cases h)⟩
    · exact selA
  by_cases h2 : 2305843009213693952 < u.1
  · rw [if_pos (.inr h2)] at hop
    rw [hop, h1]
    refine wk ?_
    (apply CQ.end2; (· rfl); (· exact .tmp rfl); (· exact .tmp rfl))
    · exact ⟨fun _ => ⟨rfl, rfl⟩, (fun h => by cases h)⟩
    · exact selA
  rw [if_neg (by rintro (h | h) <;> contradiction)] at hop
  rw [hop, h1]
  refine wk ?_
  (apply CX.ps; (· apply PS.loadG (vs := hc u.2.1); (· rfl); (· rfl); (· exact CellsAt.all (by first | exact pickA | exact updA)); (· rfl)))
  refine CX.callA (hbt q) ?_
  rintro _ _ ⟨a8, c8, l8, ok, rfl, rfl, -, hk1, hk2⟩
  by_cases h3 : rr.2 = 0
  · obtain ⟨rfl, -⟩ := hk1 h3
    refine wk ?_
    (apply CQ.end2; (· rfl); (· exact .tmp rfl); (· exact .tmp rfl))
    · exact ⟨fun h => absurd h3 h, fun _ => ⟨q, rfl, rfl⟩⟩
    · exact selA
  · obtain rfl := hk2 h3
    have h5 : rr.2 = 5 := hre.resolve_left h3
    refine wk ?_
    (apply CQ.end2; (· rfl); (· exact .tmp rfl); (· exact .tmp rfl))
    · exact ⟨fun _ => ⟨by rw [h5], rfl⟩, fun h => absurd h h3⟩
    · exact selA
end Go.Proofs.YtlckhaodecdbbaaGreatDoor
/-! ref 09: Make, Open, Rows, Value, Room, in the program. -/
namespace Go.Cx
theorem GoodS.len60 {n N : Nat} {D : DS} {J : JM} {bs : List Blk} {t : Tab} (g : GoodS n N D J bs t) : bs.length ≤ 60 := by have := g.few; have := g.g.js.n2; omega
end Go.Cx
namespace Go.Proofs.YtlckhaodecdbbaaGreatDoor
open Go.Cx
attribute [local irreducible] Go.Cx.CX Go.Cx.CC Go.Cx.CQ Go.Cx.PS Go.Cx.Ctr Go.Cx.CH
set_option maxRecDepth 10000
/-- The document's store. -/
def rstA (t q : Nat) : Assn := bk t 106 [.pointer (some ⟨q, 0, none⟩)]
theorem newR_of {n N : Nat} {D : DS} {J : JM} {bs : List Blk} (g : GoodC n N D J bs) : newR D = (J.n, J.h, 0) := by
  have h64 := g.wf.lo
  have r0 : D.read 0 = (D.sure.getD 0 [], 0) := g.calm.read (k := 0) (by omega)
  have r1 : D.read 1 = (D.sure.getD 1 [], 0) := g.calm.read (k := 1) (by omega)
  unfold newR
  rw [r0, r1]; exact g.js.newest.1
theorem r7bat_go (q r : Nat) {n N : Nat} {D : DS} {J : JM} {bs : List Blk} (g : GoodC n N D J bs) (hN : N < 900000) : Ctr Tryz.prog 68 [.pointer (some ⟨q, 0, none⟩)] [rjA q r, rdisk r D] (fun _ => True)
    (fun v M => ∃ a c l, v = .slice a (List.length l) c ∧ M = [rjA q r, rdisk r D, bsA a l] ∧ l.map SlB.b = bs) := by
  have hb := r7bat_c q r D g.wf (by omega) g.calm.lit
  rw [newR_of g] at hb
  have hre : readM ⟨0, J.h⟩ D = (bs, 0) := g.js.read g.calm
  refine Ctr.conseq hb fun v M hv => ?_
  obtain ⟨a, c, l, rfl, rfl, hl, h1⟩ := hv
  dsimp only at h1
  rw [hre] at h1
  exact ⟨_, ⟨a, c, l, rfl, rfl, h1 rfl⟩, fun x h hs => hs⟩
theorem r9rows_c (t q r : Nat) {n N : Nat} {D : DS} {J : JM} {bs : List Blk} {tb : Tab} (g : GoodS n N D J bs tb) (hN : N < 900000) : Ctr Tryz.prog 28 [.pointer (some ⟨t, 0, none⟩)] [rstA t q, rjA q r, rdisk r D] (fun _ => True)
    (fun v M => ∃ a tl c, v = .slice a (List.length tl) c ∧ M = [rstA t q, rjA q r, rdisk r D, tabA a tl] ∧ tl.map RwV.m = tb ∧ (a = none → tl.length = 0 ∧ c = 0) ∧ tl.length ≤ c) := by
  have hbat := r7bat_go q r g.g hN
  unfold rstA
  refine Ctr.intro Tryz.func28 rfl Tryz.ntmps28 rfl fun x w hp => ?_
  refine wk ?_
  refine CX.callA (hbat) ?_
  rintro _ _ ⟨a5, c5, l5, rfl, rfl, hl5⟩
  have hfew : l5.length ≤ 60 := by have h1 := g.len60; rw [← hl5, List.length_map] at h1; exact h1
  have hsz : ∀ b ∈ l5, b.b.length ≤ 1048576 := fun b hb => g.g.js.sz _ (by rw [← hl5]; exact List.mem_map_of_mem hb)
  refine wk ?_
  refine CX.callA (r9fold_c l5 a5 c5 tb (by rw [hl5]; exact g.fold) hfew hsz) ?_ (hpre := by exact bs_bsA (by first | exact pickA | exact updA))
  rintro _ _ ⟨a, tl, c, rfl, rfl, h1, h2, h3⟩
  refine wk ?_
  (apply CQ.end1; (· rfl); (· exact .tmp rfl))
  · exact ⟨a, tl, c, rfl, rfl, h1, h2, h3⟩
  · exact selA
theorem r9value_c (t q r : Nat) {n N : Nat} {D : DS} {J : JM} {bs : List Blk} {tb : Tab} (g : GoodS n N D J bs tb) (hN : N < 900000) (hw : wt tb ≤ 1073741824) (k : Blk) : Ctr Tryz.prog 27 [.pointer (some ⟨t, 0, none⟩), sv k] [rstA t q, rjA q r, rdisk r D] (fun _ => True)
    (fun v M => ∃ a' B c' d, v = .tuple #[.slice a' (List.length B) c', .bool d] ∧ M = [rstA t q, rjA q r, rdisk r D, own 5 1 a' (List.length B) c' (cb B)] ∧ (d = true → val tb k = some B) ∧ (d = false → val tb k = none ∧ B = [])) := by
  have hrows := r9rows_c t q r g hN
  refine Ctr.intro Tryz.func27 rfl Tryz.ntmps27 rfl fun x w hp => ?_
  refine wk ?_
  refine CX.callA (hrows) ?_
  rintro _ _ ⟨a, tl, c, rfl, rfl, h1, h2, h3⟩
  have hl := wt_len' h1
  refine wk ?_
  refine CX.callA (r8find_c tl (by omega) (by rw [h1]; exact g.may) a c k) ?_ (hpre := by exact rw_tab (by first | exact pickA | exact updA))
  rintro _ _ ⟨a', B, c', dd, rfl, rfl, h4, h5⟩
  rw [h1] at h4 h5
  refine wk ?_
  (apply CQ.end2; (· rfl); (· exact .tmp rfl); (· exact .tmp rfl))
  · exact ⟨a', B, c', dd, rfl, rfl, h4, h5⟩
  · exact selA
theorem r9room_c (t q r : Nat) {n N : Nat} {D : DS} {J : JM} {bs : List Blk} (g : GoodC n N D J bs) (hN : N < 900000) : Ctr Tryz.prog 30 [.pointer (some ⟨t, 0, none⟩)] [rstA t q, rjA q r, rdisk r D] (fun _ => True)
    (fun v M => v = .int .i64 ((((n - 2) / 2 : Nat) : Int) - (J.h.blocks : Int)) ∧ M = [rstA t q, rjA q r, rdisk r D]) := by
  have hr := r7room_c q r D g.wf (by omega)
  rw [newR_of g, g.bank] at hr
  dsimp only at hr
  unfold rstA
  refine Ctr.intro Tryz.func30 rfl Tryz.ntmps30 rfl fun x w hp => ?_
  refine wk ?_
  refine CX.callA (hr) ?_
  rintro _ _ ⟨rfl, rfl⟩
  refine wk ?_
  ((apply CQ.end1; (· rfl); (· exact .tmp rfl)); (· exact ⟨rfl, rfl⟩); (· exact selA))
theorem r9rm_c (e : Int) : Ctr Tryz.prog 60 [.int .i64 e] [] (fun _ => True) (fun v M => v = .bool (decide (e ≠ 10 ∧ e ≠ 3)) ∧ M = []) := by
  refine Ctr.intro Tryz.func60 rfl Tryz.ntmps60 rfl fun x w hp => ?_
  by_cases h1 : e = 10
  · rw [decide_eq_false (fun h => h.1 h1)]
    refine wk ?_
    ((apply CQ.end1; (· rfl); (· exact .tmp rfl)); (· exact ⟨rfl, rfl⟩); (· exact selA))
  · by_cases h2 : e = 3
    · rw [decide_eq_false (fun h => h.2 h2)]
      refine wk ?_
      ((apply CQ.end1; (· rfl); (· exact .tmp rfl)); (· exact ⟨rfl, rfl⟩); (· exact selA))
    · rw [decide_eq_true ⟨h1, h2⟩]
      refine wk ?_
      ((apply CQ.end1; (· rfl); (· exact .tmp rfl)); (· exact ⟨rfl, rfl⟩); (· exact selA))
theorem r9make_new (r n : Nat) (h1 : 64 ≤ n) (h2 : n ≤ 4096) : Ctr Tryz.prog 57 [.pointer (some ⟨r, 0, none⟩)] [rdisk r (DS.new n)] (fun _ => True)
    (fun v M => ∃ t q, v = .tuple #[.pointer (some ⟨t, 0, none⟩), .int .i64 0] ∧ M = [rstA t q, rjA q r, rdisk r (makeM (DS.new n)).2.2]) := by
  obtain ⟨m1, -⟩ := make_new (n := n) h1 h2
  have hm := r7make_c r (DS.new n) (new_wf h1 h2) (by omega) ⟨rfl, rfl⟩
  unfold RMadeP at hm
  generalize makeM (DS.new n) = u at *
  unfold rstA
  refine Ctr.intro Tryz.func57 rfl Tryz.ntmps57 rfl fun x w hp => ?_
  refine wk ?_
  refine CX.callA (hm) ?_
  rintro _ _ ⟨-, hq⟩
  obtain ⟨q, rfl, rfl⟩ := hq m1
  refine wk ?_
  refine CX.ps (PS.build (vs := [(0, .pointer (some ⟨q, 0, none⟩))]) (out := [.pointer (some ⟨q, 0, none⟩)]) rfl rfl rfl) ?_
  (refine CX.boxA (vs := [.pointer (some ⟨q, 0, none⟩)]) ?_; intro t)
  refine wk ?_
  (apply CQ.end2; (· rfl); (· exact .tmp rfl); (· exact .tmp rfl))
  · exact ⟨t, q, rfl, rfl⟩
  · exact selA
theorem r9open_go (r : Nat) {n N : Nat} {D : DS} {J : JM} {bs : List Blk} {tb : Tab} (g : GoodS n N D J bs tb) (hN : N < 900000) : Ctr Tryz.prog 63 [.pointer (some ⟨r, 0, none⟩)] [rdisk r D] (fun _ => True)
    (fun v M => ∃ t q, v = .tuple #[.pointer (some ⟨t, 0, none⟩), .int .i64 0] ∧ M = [rstA t q, rjA q r, rdisk r D]) := by
  have ho := r7open_c r D g.g.wf (by omega) g.g.calm.lit
  unfold ROpenP at ho
  rw [g.g.js.opens g.g.calm] at ho
  have hbat := fun q => r7bat_go q r g.g hN
  unfold rstA
  refine Ctr.intro Tryz.func63 rfl Tryz.ntmps63 rfl fun x w hp => ?_
  refine wk ?_
  refine CX.callA (ho) ?_
  rintro _ _ ⟨-, hq⟩
  obtain ⟨q, rfl, rfl⟩ := hq rfl
  refine wk ?_
  refine CX.callA (hbat q) ?_
  rintro _ _ ⟨a5, c5, l5, rfl, rfl, hl5⟩
  have hfew : l5.length ≤ 60 := by have h1 := g.len60; rw [← hl5, List.length_map] at h1; exact h1
  have hsz : ∀ b ∈ l5, b.b.length ≤ 1048576 := fun b hb => g.g.js.sz _ (by rw [← hl5]; exact List.mem_map_of_mem hb)
  refine wk ?_
  refine CX.callA (r9fold_c l5 a5 c5 tb (by rw [hl5]; exact g.fold) hfew hsz) ?_ (hpre := by exact bs_bsA (by first | exact pickA | exact updA))
  rintro _ _ ⟨a, tl, c, rfl, rfl, h1, h2, h3⟩
  refine wk ?_
  refine CX.ps (PS.build (vs := [(0, .pointer (some ⟨q, 0, none⟩))]) (out := [.pointer (some ⟨q, 0, none⟩)]) rfl rfl rfl) ?_
  (refine CX.boxA (vs := [.pointer (some ⟨q, 0, none⟩)]) ?_; intro t)
  refine wk ?_
  (apply CQ.end2; (· rfl); (· exact .tmp rfl); (· exact .tmp rfl))
  · exact ⟨t, q, rfl, rfl⟩
  · exact selA
theorem jmake_at (d n : Nat) (h1 : 64 ≤ n) (h2 : n ≤ 4096) : Ctr Tryz.prog 37 [.pointer (some ⟨d, 0, none⟩)] [disk d (DS.new n)] (fun _ => True)
    (fun v M => ∃ p, v = .tuple #[.pointer (some ⟨p, 0, none⟩), .int .i64 0] ∧ M = [bk p 123 (jrc d ⟨1, HdM.z⟩), disk d (makeM (DS.new n)).2.2] ∧ GoodC n 2060 (makeM (DS.new n)).2.2 ⟨1, HdM.z⟩ []) := by
  obtain ⟨m1, m2, m3, m4, m5, m6⟩ := make_new (n := n) h1 h2
  refine Ctr.conseq (jmake_c d (DS.new n) (new_wf h1 h2) (by omega)) fun v M hv => ?_
  unfold MadeP at hv
  obtain ⟨hw, -, hp⟩ := hv.2 rfl
  obtain ⟨p, rfl, rfl⟩ := hp m1
  rw [m2]
  exact ⟨_, ⟨p, rfl, rfl, by rw [Nat.zero_add] at hw; exact hw, m3, m5, m6⟩, fun x h hs => hs⟩
theorem smake_at (d n : Nat) (h1 : 64 ≤ n) (h2 : n ≤ 4096) : Ctr Tryz.prog 9 [.pointer (some ⟨d, 0, none⟩)] [disk d (DS.new n)] (fun _ => True)
    (fun v M => ∃ s p, v = .tuple #[.pointer (some ⟨s, 0, none⟩), .int .i64 0] ∧ M = [bk s 79 (stc p none 0 0), bk p 123 (jrc d ⟨1, HdM.z⟩), disk d (makeM (DS.new n)).2.2, tabA none []] ∧ GoodS n 2060 (makeM (DS.new n)).2.2 ⟨1, HdM.z⟩ [] []) := by
  have hm := jmake_at d n h1 h2
  generalize (makeM (DS.new n)).2.2 = D at *
  refine Ctr.intro Tryz.func9 rfl Tryz.ntmps9 rfl fun x w hp => ?_
  refine wk ?_
  refine CX.callA (hm) ?_
  rintro _ _ ⟨p, rfl, rfl, g⟩
  refine wk ?_
  refine CX.ps (PS.build (vs := [(0, .pointer (some ⟨p, 0, none⟩))]) (out := stc p none 0 0) rfl rfl rfl) ?_
  (refine CX.boxA (vs := stc p none 0 0) ?_; intro s)
  refine CX.give (tabA none []) (fun k => tabA_ok.2 ⟨.inl rfl, fun _ h => by cases h⟩) ?_
  refine wk ?_
  (apply CQ.end2; (· rfl); (· exact .tmp rfl); (· exact .tmp rfl))
  · exact ⟨s, p, rfl, rfl, g, rfl, Nat.zero_le _⟩
  · exact selA
end Go.Proofs.YtlckhaodecdbbaaGreatDoor
/-! ref 08: Whole (Between of nothing and a table), in the program. -/
namespace Go.Cx
theorem whole_map : ∀ (t : Tab), betweenM [] t = t.map fun r => ⟨r.1, r.2, false⟩
  | [] => by simp [betweenM]
  | r :: t => by rw [betweenM, whole_map t]; rfl
end Go.Cx
namespace Go.Proofs.YtlckhaodecdbbaaGreatDoor
open Go.Cx
attribute [local irreducible] Go.Cx.CX Go.Cx.CC Go.Cx.CQ Go.Cx.PS Go.Cx.Ctr Go.Cx.CH
set_option maxRecDepth 10000
theorem r8betw0_c (l : List RwV) (hl : l.length ≤ 1073741820) (hr : MayR (l.map RwV.m)) (b : Option Addr) (cb' : Nat) : Ctr Tryz.prog 106 [.slice none 0 0, .slice b l.length cb'] [] (fun x => rwAt b l x)
    (fun v M => ∃ a' c' r, v = .tuple #[.slice a' (List.length r) c', .int .i64 0] ∧ M = [chsA a' r] ∧ r.map ChV.m = betweenM [] (l.map RwV.m) ∧ (a' = none → r.length = 0 ∧ c' = 0) ∧ r.length ≤ c') := by
  refine Ctr.intro Tryz.func106 rfl Tryz.ntmps106 rfl fun x w hp => ?_
  refine wk ?_
  refine CX.callA (r8may_c [] (Nat.zero_le _) none 0) ?_ (hpre := by exact fun y hy => ⟨.inl rfl, fun _ h => by cases h⟩)
  rw [decide_eq_true (show MayR (([] : List RwV).map RwV.m) from may_nil)]
  rintro _ _ ⟨rfl, rfl⟩
  refine wk ?_
  refine CX.callA (r8may_c l (by omega) b cb') ?_ (hpre := by exact rw_ex (by first | exact pickA | exact updA) hp)
  rw [decide_eq_true hr]
  rintro _ _ ⟨rfl, rfl⟩
  refine wk ?_
  refine CC.ownNil 68 3 ?_
  refine CC.give (valC []) (fun _ => valC_ok.2 fun _ h => by cases h) ?_
  refine CC.loop (X := Nat × Option Addr × Nat × List ChV) (fun s => [(8, .int .i64 (s.1 : Int)), (7, .int .i64 0), (6, .slice s.2.1 s.2.2.2.length s.2.2.1), (0, .slice none 0 0), (1, .slice b l.length cb')])
    (fun s => [own 68 3 s.2.1 s.2.2.2.length s.2.2.1 (rows ChV.cells s.2.2.2), valC s.2.2.2, exact x])
    (fun s => s.1 ≤ l.length ∧ s.2.2.2.length = s.1 ∧ s.2.2.2.map ChV.m = ((l.take s.1).map RwV.m).map fun r => ⟨r.1, r.2, false⟩) (fun s => l.length - s.1) (0, none, 0, []) ⟨Nat.zero_le _, rfl, rfl⟩ ⟨rfl, rfl, rfl, rfl, rfl, trivial⟩ (by exact selA) ?_
  rintro ⟨k, a1, c1, r⟩ ⟨hk, hrl, hr'⟩
  dsimp only at hk hrl hr' ⊢
  by_cases h1 : k < l.length
  rotate_left
  · rw [List.take_of_length_le (by omega), ← whole_map] at hr'
    refine CC.fact (own_none (e := 68) (by first | exact pickA | exact updA)) ?_
    rintro ⟨hn1, hc1, -⟩
    refine CC.merge (chsA a1 r) own_chs ?_
    refine wk ?_
    (apply CQ.end2; (· rfl); (· exact .tmp rfl); (· exact .tmp rfl))
    · exact ⟨a1, c1, r, rfl, rfl, hr', hn1, hc1⟩
    · exact selA
  obtain ⟨g, off, rfl⟩ := rwAt_some hp (by omega)
  have hsok := hp.2 l[k] (List.getElem_mem h1)
  have hv : (l[k]).s.b.length ≤ 1073741824 := Nat.le_trans (mayR_ok hr k h1).2.2 (by decide)
  have hne : ¬ (k : Int) = (l.length : Int) := by omega
  refine wk ?_
  refine CC.draw [(0, 0), (1, 0), (2, 0), (3, 0), (4, 0), (5, 0), (6, 0), (7, 0), (8, 0), (9, 0), (10, 0), (11, 0), (12, 0), (13, 0), (14, 1), (15, 0), (16, 0), (17, 0), (18, 0), (19, 1), (20, 0), (21, 0), (22, 0)] mixed rfl (by kernel_rfl) (by kernel_rfl) [exact x] ?_
  refine hwk ?_
  refine wk ?_
  refine CC.draw [(0, 0), (1, 0), (2, 0), (3, 0), (4, 0), (5, 0), (6, 0), (7, 0), (8, 0), (9, 1), (10, 0), (11, 0), (12, 0), (13, 0), (14, 1), (15, 0), (16, 0)] mixed rfl (by kernel_rfl) (by kernel_rfl) [exact x] ?_
  refine hwk ?_
  refine wk ?_
  refine CC.draw [(0, 0), (1, 0), (2, 0), (3, 0), (4, 0), (5, 1), (6, 0), (7, 0), (8, 0), (9, 0), (10, 1), (11, 2), (12, 0), (13, 2), (14, 2), (15, 0)] mixed rfl (by kernel_rfl) (by kernel_rfl) [exact x] ?_
  refine hwk ?_
  refine CH.pure rfl (PS.indexAddr (j := k) rfl rfl rfl rfl h1) ?_
  refine hwk ?_
  (apply CH.read; (· rfl); (· apply PS.load (v := sv (l[k]).key); (· rfl); (· rfl); (· exact hp.cell (by first | exact pickA | exact updA) h1 0 rfl)); (· exact selA))
  refine hwk ?_
  refine CH.pure rfl (PS.indexAddr (j := k) rfl rfl rfl rfl h1) ?_
  refine hwk ?_
  (apply CH.read; (· rfl); (· apply PS.load (v := .slice (l[k]).s.a (l[k]).s.b.length (l[k]).s.c); (· rfl); (· rfl); (· exact hp.cell (by first | exact pickA | exact updA) h1 1 rfl)); (· exact selA))
  refine CH.chain rfl fun K hK => ?_
  refine CX.callA (r0copy_c (l[k]).s.b hv (l[k]).s.a (l[k]).s.c (fun e => ⟨by rw [(hsok.nil e).1]; rfl, (hsok.nil e).2⟩)) ?_ (hpre := by exact rdx_ex (by first | exact pickA | exact updA) hsok.r)
  rintro _ _ ⟨a2, c2, rfl, rfl⟩
  (refine CX.nil ?_; refine CQ.thenK ?_; apply hK; (· exact selA); clear hK K)
  refine CH.pure rfl (PS.build (vs := [(0, sv (l[k]).key), (1, .slice a2 (l[k]).s.b.length c2)]) (out := [sv (l[k]).key, .slice a2 (l[k]).s.b.length c2, .bool false]) rfl rfl rfl) ?_
  refine CH.chain rfl fun K hK => ?_
  refine CX.buildSl (parts := [(0, _)]) (vs := [(0, .agg #[sv (l[k]).key, .slice a2 (l[k]).s.b.length c2, .bool false])]) (out := ChV.cells ⟨(l[k]).key, ⟨a2, (l[k]).s.b, c2⟩, false⟩) rfl rfl (by decide) (by simp [fillL, Value.cells, setL, ChV.cells]) fun bq => ?_
  (refine CX.nil ?_; refine CQ.thenK ?_; apply hK; (· exact selA); clear hK K)
  refine CH.chain rfl fun K hK => ?_
  refine CX.append (m := 1) (news := ChV.cells ⟨(l[k]).key, ⟨a2, (l[k]).s.b, c2⟩, false⟩) rfl rfl rfl (by first | exact pickA | exact updA) (RdS.pick (b := bq) (o := 0) (by first | exact pickA | exact updA) rfl (one_all rfl) rfl) (by omega) (fun h => by cases h) ?_
  intro a3 c3
  rw [show rows ChV.cells r ++ ChV.cells ⟨(l[k]).key, ⟨a2, (l[k]).s.b, c2⟩, false⟩ = rows ChV.cells (r ++ [⟨(l[k]).key, ⟨a2, (l[k]).s.b, c2⟩, false⟩]) from by rw [rows_append]; simp [rows], show r.length + 1 = (r ++ [(⟨(l[k]).key, ⟨a2, (l[k]).s.b, c2⟩, false⟩ : ChV)]).length from by simp]
  refine CX.merge (A := valC r) (B := own 5 1 a2 (l[k]).s.b.length c2 (cb (l[k]).s.b)) (valC (r ++ [⟨(l[k]).key, ⟨a2, (l[k]).s.b, c2⟩, false⟩])) (fun k s u => valC_ok.2 fun q hq => by
    rcases List.mem_append.1 hq with h | h
    · exact valC_ok.1 s q h
    · rw [List.mem_singleton.1 h]; exact own_SlB u) ?_
  have hlm : (r ++ [(⟨(l[k]).key, ⟨a2, (l[k]).s.b, c2⟩, false⟩ : ChV)]).map ChV.m = ((l.take (k + 1)).map RwV.m).map fun r => ⟨r.1, r.2, false⟩ := by
    rw [List.map_append, hr', List.take_add_one, List.getElem?_eq_getElem h1, List.map_append, List.map_append]; rfl
  have hll : (r ++ [(⟨(l[k]).key, ⟨a2, (l[k]).s.b, c2⟩, false⟩ : ChV)]).length = k + 1 := by simp [hrl]
  generalize r ++ [(⟨(l[k]).key, ⟨a2, (l[k]).s.b, c2⟩, false⟩ : ChV)] = r2 at *
  (refine CX.nil ?_; refine CQ.thenK ?_; apply hK; (· exact selA); clear hK K)
  refine hwk ?_
  refine wk ?_
  exact CQ.round (x := (k, a1, c1, r)) (k + 1, a3, c3, r2) ⟨h1, hll, hlm⟩ (by dsimp only; omega) ⟨eqI (by omega), rfl, rfl, rfl, rfl, trivial⟩ (by exact selA)
theorem r8whole_c (l : List RwV) (hl : l.length ≤ 1073741820) (hr : MayR (l.map RwV.m)) (b : Option Addr) (cb' : Nat) : Ctr Tryz.prog 61 [.slice b l.length cb'] [] (fun x => rwAt b l x)
    (fun v M => ∃ a' c' r, v = .tuple #[.slice a' (List.length r) c', .int .i64 0] ∧ M = [chsA a' r] ∧ r.map ChV.m = betweenM [] (l.map RwV.m) ∧ (a' = none → r.length = 0 ∧ c' = 0) ∧ r.length ≤ c') := by
  refine Ctr.intro Tryz.func61 rfl Tryz.ntmps61 rfl fun x w hp => ?_
  refine wk ?_
  refine CX.callA (r8betw0_c l hl hr b cb') ?_ (hpre := by exact rw_ex (by first | exact pickA | exact updA) hp)
  rintro _ _ ⟨a', c', r, rfl, rfl, h1, h2, h3⟩
  refine wk ?_
  (apply CQ.end2; (· rfl); (· exact .tmp rfl); (· exact .tmp rfl))
  · exact ⟨a', c', r, rfl, rfl, h1, h2, h3⟩
  · exact selA
end Go.Proofs.YtlckhaodecdbbaaGreatDoor
/-! ref 09: Commit, in the program. -/
namespace Go.Proofs.YtlckhaodecdbbaaGreatDoor
open Go.Cx
attribute [local irreducible] Go.Cx.CX Go.Cx.CC Go.Cx.CQ Go.Cx.PS Go.Cx.Ctr Go.Cx.CH
set_option maxRecDepth 10000
set_option maxHeartbeats 1000000 in
theorem r9commit_c (t q r : Nat) {n N : Nat} {D : DS} {J : JM} {bs : List Blk} {tb : Tab} (g : GoodS n N D J bs tb) (n2 : J.n ≤ 59) (hN : N < 900000) (l : List ChV) (hl0 : l.length ≤ 1073741824)
    (hw : MayC (l.map ChV.m) → wt tb + wl (l.map ChV.m) ≤ 1048572) (hw0 : wt tb ≤ 1048572) (la : Option Addr) (lc : Nat) :
    Ctr Tryz.prog 20 [.pointer (some ⟨t, 0, none⟩), .slice la l.length lc] [rstA t q, rjA q r, rdisk r D] (fun x => chAt la l x)
      (fun v M => v = .int .i64 (commitM J D tb (l.map ChV.m)).1 ∧ M = [rstA t q, rjA q r, rdisk r (commitM J D tb (l.map ChV.m)).2.2.1]) := by
  have hrows := r9rows_c t q r g hN
  have hbk : bankM D = (n - 2) / 2 := g.g.bank
  have hroom : J.h.blocks ≤ bankM D := by have h1 := g.g.js.room; rw [bank_eq]; exact h1
  have happ := fun b hb a cap hn => r7app_c q r J (by omega) g.g.js.may D g.g.wf (by omega) g.g.calm (newR_of g.g) hroom b hb a cap hn
  have hrep := fun b hb a cap hn => r7rep_c q r J (by omega) g.g.js.may D g.g.wf (by omega) g.g.calm (newR_of g.g) b hb a cap hn
  unfold rstA at hrows ⊢
  unfold rjA at hrows happ hrep ⊢
  unfold commitM
  refine Ctr.intro Tryz.func20 rfl Tryz.ntmps20 rfl fun x w hp => ?_
  refine wk ?_
  refine CX.callA (r8put_c l (by omega) (fun h => by have := hw h; have := put_wl (l.map ChV.m); omega) la lc) ?_ (hpre := by exact ch_ex (by first | exact pickA | exact updA) hp)
  unfold BatchP
  rintro _ _ ⟨hput, hbad⟩
  by_cases hm : MayC (l.map ChV.m)
  rotate_left
  · obtain ⟨rfl, rfl⟩ := hbad hm
    rw [if_pos hm]
    refine wk ?_
    ((apply CQ.end1; (· rfl); (· exact .tmp rfl)); (· exact ⟨rfl, rfl⟩); (· exact selA))
  obtain ⟨b1, k1, rfl, rfl⟩ := hput hm
  rw [if_neg (fun h => h hm)]
  specialize hw hm
  have hput1 := put_wl (l.map ChV.m)
  by_cases h0 : l.length = 0
  · have hl : l = [] := List.eq_nil_of_length_eq_zero h0
    rw [if_pos (by rw [hl]; rfl)]
    refine wk ?_
    ((apply CQ.end1; (· rfl); (· exact .tmp rfl)); (· exact ⟨rfl, rfl⟩); (· exact selA))
  rw [if_neg (fun e => h0 (by have := congrArg List.length e; simpa using this))]
  refine wk ?_
  refine CX.callA (rdark_c r D) ?_
  rw [g.g.calm.lit]
  rintro _ _ ⟨rfl, rfl⟩
  refine wk ?_
  refine CX.callA (hrows) ?_
  rintro _ _ ⟨a2, t2, c2, rfl, rfl, ht2, hn2, hc2⟩
  have hl2 := wt_len' ht2
  have hwll := wl_len (l.map ChV.m)
  rw [List.length_map] at hwll
  have hmr := apply_may g.may hm
  have hwt := wt_apply tb (l.map ChV.m)
  have hwb := wholeB_len (applyM tb (l.map ChV.m))
  refine wk ?_
  refine CX.callA (happ (putB (l.map ChV.m)) (by omega) (some ⟨b1, 0, none⟩) k1 (fun h => by cases h)) ?_ (hpre := by exact rdx_own (by first | exact pickA | exact updA) rfl)
  rintro _ _ ⟨rfl, rfl⟩
  rcases app_turn g.g n2 (b := putB (l.map ChV.m)) (by omega) with ⟨h1, h2⟩ | ⟨h1, h2⟩
  rotate_left
  · have hlay : lay9 J D (putB (l.map ChV.m)) (wholeB (applyM tb (l.map ChV.m))) = appendM J D (putB (l.map ChV.m)) := by
      unfold lay9; rw [if_neg (by have := h2.ne10; omega)]
    rw [hlay]
    have h09 := h2.ne10
    generalize appendM J D (putB (l.map ChV.m)) = u at *
    obtain ⟨e, J', D'⟩ := u
    dsimp only at h09 ⊢
    refine wk ?_
    refine CX.callA (r9rm_c e) ?_
    rw [decide_eq_true (show e ≠ 10 ∧ e ≠ 3 by omega)]
    rintro _ _ ⟨rfl, rfl⟩
    refine wk ?_
    ((apply CQ.end1; (· rfl); (· exact .tmp rfl)); (· exact ⟨rfl, rfl⟩); (· exact selA))
  have hlay : lay9 J D (putB (l.map ChV.m)) (wholeB (applyM tb (l.map ChV.m))) = replaceM J D (wholeB (applyM tb (l.map ChV.m))) := by
    unfold lay9; rw [if_pos (by rw [h1])]
  rw [hlay, h1]
  dsimp only
  refine wk ?_
  refine CX.callA (r9rm_c 10) ?_
  rw [decide_eq_false (fun h => h.1 rfl)]
  rintro _ _ ⟨rfl, rfl⟩
  refine wk ?_
  refine CX.callA (r8apply_c t2 l (by omega) a2 la c2 lc hc2 hn2) ?_ (hpre := by exact ch_ex (by first | exact pickA | exact updA) hp)
  unfold R8P
  rintro _ _ ⟨-, hap⟩
  obtain ⟨a3, c3, t3, hm3, rfl, rfl, hn3, hc3, hl3⟩ := hap ⟨by rw [ht2]; exact g.may, hm⟩
  rw [ht2] at hm3
  refine wk ?_
  refine CX.callA (r8whole_c t3 (by omega) (by rw [hm3]; exact hmr) a3 c3) ?_ (hpre := by exact rw_tab2 (by first | exact pickA | exact updA))
  rintro _ _ ⟨a4, c4, l4, rfl, rfl, hm4, hn4, hc4⟩
  rw [hm3] at hm4
  have hwl4 := wl_len (l4.map ChV.m)
  rw [hm4, wl_whole, ← hm4, List.length_map] at hwl4
  have hMay4 : MayC (l4.map ChV.m) := by rw [hm4]; exact whole_may hmr
  have hpb : putB (l4.map ChV.m) = wholeB (applyM tb (l.map ChV.m)) := by rw [hm4]; rfl
  refine wk ?_
  refine CX.callA (r8put_c l4 (by omega) (fun h => by rw [hpb]; omega) a4 c4) ?_ (hpre := by exact ch_chs (by first | exact pickA | exact updA))
  unfold BatchP
  rintro _ _ ⟨hput4, -⟩
  obtain ⟨b5, k5, rfl, rfl⟩ := hput4 hMay4
  rw [hpb]
  refine wk ?_
  refine CX.callA (hrep (wholeB (applyM tb (l.map ChV.m))) (by omega) (some ⟨b5, 0, none⟩) k5 (fun h => by cases h)) ?_ (hpre := by exact rdx_own (by first | exact pickA | exact updA) rfl)
  rintro _ _ ⟨rfl, rfl⟩
  have hcases : (replaceM J D (wholeB (applyM tb (l.map ChV.m)))).1 = 10 ∨ (replaceM J D (wholeB (applyM tb (l.map ChV.m)))).1 = 0 ∨ (replaceM J D (wholeB (applyM tb (l.map ChV.m)))).1 = 9 := by
    rcases rep_turn g.g n2 (b := wholeB (applyM tb (l.map ChV.m))) (by omega) with ⟨h, -⟩ | ⟨-, h⟩
    · exact .inl (by rw [h])
    · exact .inr h.ne10
  generalize replaceM J D (wholeB (applyM tb (l.map ChV.m))) = u at *
  obtain ⟨e, J', D'⟩ := u
  dsimp only at hcases ⊢
  by_cases h10 : e = 10
  · subst h10
    refine wk ?_
    refine CX.callA (r9rm_c 10) ?_
    rw [decide_eq_false (fun h => h.1 rfl)]
    rintro _ _ ⟨rfl, rfl⟩
    refine wk ?_
    ((apply CQ.end1; (· rfl); (· exact .tmp rfl)); (· exact ⟨rfl, rfl⟩); (· exact selA))
  · refine wk ?_
    refine CX.callA (r9rm_c e) ?_
    rw [decide_eq_true (show e ≠ 10 ∧ e ≠ 3 by omega)]
    rintro _ _ ⟨rfl, rfl⟩
    refine wk ?_
    ((apply CQ.end1; (· rfl); (· exact .tmp rfl)); (· exact ⟨rfl, rfl⟩); (· exact selA))
end Go.Proofs.YtlckhaodecdbbaaGreatDoor
/-! The statement StoreCuts, in the program. -/
namespace Go.Cx
/-- A store on a disk, and the table that it holds. -/
structure CutG (n i : Nat) (q : StQ) (bs : List Blk) (t : Tab) : Prop where
  g : GoodS n (2060 + i * 2060) q.2.1 q.1 bs t
  j : q.1.n ≤ i + 1
  w : wt t ≤ i * 25000
  t1 : q.2.2.2.2.map RwV.m = t
  n1 : q.2.2.1 = none → q.2.2.2.2.length = 0 ∧ q.2.2.2.1 = 0
  c1 : q.2.2.2.2.length ≤ q.2.2.2.1
theorem CutG.up {n i : Nat} {q : StQ} {bs : List Blk} {t : Tab} (h : CutG n i q bs t) : CutG n (i + 1) q bs t :=
  ⟨h.g.up (by omega), by have := h.j; omega, Nat.le_trans h.w (Nat.mul_le_mul_right _ (Nat.le_succ i)), h.t1, h.n1, h.c1⟩
end Go.Cx
namespace Go.Proofs.YtlckhaodecdbbaaGreatDoor
open Go.Cx
attribute [local irreducible] Go.Cx.CX Go.Cx.CC Go.Cx.CQ Go.Cx.PS Go.Cx.Ctr Go.Cx.CH
set_option maxRecDepth 10000
end Go.Proofs.YtlckhaodecdbbaaGreatDoor
/-! A store and the document's on their disks: desk.open, made; and Arm, plain. -/
namespace Go.Cx
theorem arm_at {n N : Nat} {D : DS} {J : JM} {bs : List Blk} {t : Tab} (g : GoodS n N D J bs t) (k : Int) (hk : k ≤ 9223372036854775807) : GoodS n N (D.arm k).2 J bs t := by
  have w := g.g.wf
  have h64 := w.lo
  unfold DS.arm
  split
  · exact g
  · split
    · exact g
    · rename_i h1 h2
      exact ⟨⟨⟨w.lo, w.hi, w.wb, w.lb, by dsimp only; omega, by dsimp only; omega, w.steps, w.loose⟩, ⟨g.g.calm.lit, g.g.calm.loose⟩, g.g.len, g.g.js⟩, g.fold, g.few⟩
/-- A store and the document's, each on its disk, at the same place. -/
abbrev dk9 (d r s t : Nat) : List Value := [.pointer (some ⟨d, 0, none⟩), .pointer (some ⟨r, 0, none⟩)] ++ [.pointer (some ⟨s, 0, none⟩), .pointer (some ⟨t, 0, none⟩)]
end Go.Cx
namespace Go.Proofs.YtlckhaodecdbbaaGreatDoor
open Go.Cx
attribute [local irreducible] Go.Cx.CX Go.Cx.CC Go.Cx.CQ Go.Cx.PS Go.Cx.Ctr Go.Cx.CH
set_option maxRecDepth 10000
theorem open9_c (dk d r s t : Nat) {n N : Nat} {D : DS} {J : JM} {bs : List Blk} {tb : Tab} (g : GoodS n N D J bs tb) (hN : N < 900000) : Ctr Tryz.prog 21 [.pointer (some ⟨dk, 0, none⟩)] [bk dk 53 (dk9 d r s t), disk d D, rdisk r D] (fun _ => True)
    (fun v M => v = .bool true ∧ ∃ s' p' a' tl' c' t' q', M = [bk dk 53 (dk9 d r s' t'), bk s' 79 (stc p' a' (List.length tl') c'), bk p' 123 (jrc d J), disk d D, tabA a' tl', rstA t' q', rjA q' r, rdisk r D] ∧ tl'.map RwV.m = tb ∧ (a' = none → tl'.length = 0 ∧ c' = 0) ∧ tl'.length ≤ c') := by
  have h1 := sopen_go d g hN
  have h2 := r9open_go r g hN
  unfold dk9
  refine Ctr.intro Tryz.func21 rfl Tryz.ntmps21 rfl fun x w hp => ?_
  refine wk ?_
  refine CX.callA (h1) ?_
  rintro _ _ ⟨s', p', a', tl', c', rfl, rfl, ht, hn, hc⟩
  refine wk ?_
  refine CX.callA (h2) ?_
  rintro _ _ ⟨t', q', rfl, rfl⟩
  refine wk ?_
  (apply CQ.end1; (· rfl); (· exact .tmp rfl))
  · exact ⟨rfl, s', p', a', tl', c', t', q', rfl, ht, hn, hc⟩
  · exact selA
theorem made9_c (n : Nat) (h1 : 64 ≤ n) (h2 : n ≤ 4096) : Ctr Tryz.prog 19 [.int .i64 (n : Int)] [] (fun _ => True)
    (fun v M => ∃ dk d r s p t q D, v = .tuple #[.pointer (some ⟨dk, 0, none⟩), .bool true] ∧ M = [bk dk 53 (dk9 d r s t), bk s 79 (stc p none 0 0), bk p 123 (jrc d ⟨1, HdM.z⟩), disk d D, tabA none [], rstA t q, rjA q r, rdisk r D] ∧ GoodS n 2060 D ⟨1, HdM.z⟩ [] []) := by
  have hs := fun d => smake_at d n h1 h2
  have hr := fun r => r9make_new r n h1 h2
  generalize (makeM (DS.new n)).2.2 = D at *
  refine Ctr.intro Tryz.func19 rfl Tryz.ntmps19 rfl fun x w hp => ?_
  refine wk ?_
  refine CX.callA (new_c (n : Int)) ?_
  rw [show ((n : Nat) : Int).toNat = n from rfl]
  rintro _ _ (⟨-, -, d, rfl, rfl⟩ | ⟨h, -, -⟩)
  rotate_left
  · omega
  refine wk ?_
  refine CX.callA (rnew_c (n : Int)) ?_
  rw [show ((n : Nat) : Int).toNat = n from rfl]
  rintro _ _ (⟨-, -, r, rfl, rfl⟩ | ⟨h, -, -⟩)
  rotate_left
  · omega
  refine wk ?_
  refine CX.callA (hs d) ?_
  rintro _ _ ⟨s, p, rfl, rfl, g⟩
  refine wk ?_
  refine CX.callA (hr r) ?_
  rintro _ _ ⟨t, q, rfl, rfl⟩
  refine wk ?_
  refine CX.ps (PS.build (vs := [(0, .pointer (some ⟨d, 0, none⟩)), (1, .pointer (some ⟨r, 0, none⟩)), (2, .pointer (some ⟨s, 0, none⟩)), (3, .pointer (some ⟨t, 0, none⟩))]) (out := dk9 d r s t) rfl rfl rfl) ?_
  (refine CX.boxA (vs := dk9 d r s t) ?_; intro dk)
  refine wk ?_
  (apply CQ.end2; (· rfl); (· exact .tmp rfl); (· exact .tmp rfl))
  · exact ⟨dk, d, r, s, p, t, q, D, rfl, rfl, g⟩
  · exact selA
end Go.Proofs.YtlckhaodecdbbaaGreatDoor
/-! Stepping through a region whose order is open: what is read is held in weaker words. No program in sight. -/
namespace Go.Cx
section
variable {P : Program} {ops : Array Oper} {Q : Exit → Act → World → Prop} {n : Nat} {e0 : World} {env : Env} {L R : List Assn} {s : Order} {T : Nat → Bool}
variable {dst : Option Tmp} {ty : TypeId} {pos : String} {aft : Array Edge} {g : Option (Nat × Bool)} {op : Op}
theorem CH.readW {i : Nat} {v : Value} (hp : PS P ops n env R ⟨dst, op, ty, pos, aft, g⟩ v) (hr : ∀ h, Sep L h → Sep R h)
    (h : CH P ops Q n e0 T R (putE env dst v) L s) (ho : ops[i]? = some ⟨dst, op, ty, pos, aft, g⟩ := by rfl) : CH P ops Q n e0 T R env L ((i, 1) :: s) := fun hsel listed hB a w hf hs he => by
  simp only [ordB, Nat.le_refl, if_true, Bool.and_eq_true, Bool.or_eq_true, List.all_eq_true] at hB
  refine wpAnyT_first (rd := true) ho (Region.noSelect_spec hsel) (fun _ _ _ h => h.elim) (fun _ j oj hj hTj => ?_) _ _ _ _ (Region.free_spec ho hB.1.1.2) (by simpa using hB.1.1.1)
    (.inl ⟨gd_wanted hf hp.1, fun w' hs' => hp.2 a w' hf (hs' rfl)⟩) (fun _ => hr _ hs) (h hsel _ hB.2 _ _ (hf.put dst v) hs he)
  rcases hB.1.2 with h1 | h1
  · simp at h1
  · have := h1 j (by simpa using (Array.getElem?_eq_some_iff.1 hj).1)
    simp only [hTj, Bool.not_true, Bool.false_or, hj, Option.map_some, Option.getD_some, Array.any_eq_true', Bool.and_eq_true, beq_iff_eq] at this
    rcases this with h2 | h2
    · cases h2
    · exact h2
theorem CH.chainW {i : Nat} {o : Oper}
    (h : ∀ K : Act → World → Prop, (∀ env' L', (∀ h, Sep L' h → Sep R h) → CH P ops Q n e0 T R env' L' s → CQ K n e0 env' L') → CX P ops (Exit.then K (NoPanic Q)) n e0 env L [o]) (ho : ops[i]? = some o := by rfl) :
    CH P ops Q n e0 T R env L ((i, 2) :: s) := fun hsel listed hB a w hf hs he => by
  have hk' : ¬ 2 ≤ 1 := by omega
  simp only [ordB, hk', if_false, Bool.and_eq_true, beq_iff_eq] at hB
  refine ⟨fun h0 => (by rw [hB.1.1] at h0; cases h0), fun j hj => ?_⟩
  rw [hB.1.1] at hj
  obtain rfl : j = i := by simpa using hj
  have := h (fun a' w' => (T j = false → Sep R w.ph → Sep R w'.ph) ∧ wpAnyT P ops (NoPanic Q) (fun w => Sep R w.ph) T s.length (listed.setIfInBounds j true) a' w')
    (fun env' L' hg hch a' w' hf' hs' he' => ⟨fun _ _ => hg _ hs', hch hsel _ hB.2 a' w' hf' hs' he'⟩) a w hf hs he
  simp only [wpOp, ho]
  unfold wpList at this
  split at this
  · rename_i hw
    simp only [hw, if_true]
    rcases this with h1 | ⟨h1, a0, w0, h2⟩
    · refine .inl ?_
      unfold Oper.wp at *
      generalize (execOp a.eval o).run P w = r at *
      cases r with
      | ok x w' =>
        cases x <;> simp only [Oper.upon] at h1 ⊢ <;> first
          | exact h1
          | exact h1.elim
          | exact Calls.mono h1 (fun e w'' h3 => by cases e <;> exact h3)
          | exact Rows.mono h1 (fun _ _ h3 => h3)
      | halt x w' => cases x <;> simp only [Oper.upon] at h1 ⊢ <;> exact h1
    · exact .inr ⟨h1, a0, w0, h2⟩
  · rename_i hw
    simp only [hw, if_false, Bool.false_eq_true]
    exact this
end
/-- The first cells of a block. -/
def fstAt (b : Nat) (vs : List Value) (h : PH) : Prop := ∃ (cs : Array Value) (t : Nat) (fr : Nat × Nat), h b = some (.cells cs t fr) ∧ ∀ (j : Nat) (v : Value), vs[j]? = some v → cs[j]? = some v
theorem fstAt_mono {b : Nat} {vs : List Value} {h k : PH} (l : Le h k) (a : fstAt b vs h) : fstAt b vs k := by
  obtain ⟨cs, t, fr, e, q⟩ := a
  exact ⟨cs, t, fr, l _ _ e, q⟩
@[irreducible] def fst (b : Nat) (vs : List Value) : Assn where
  ok h := fstAt b vs h
  mono := fun _ _ l a => fstAt_mono l a
theorem fst_ok {b : Nat} {vs : List Value} {h : PH} : (fst b vs).ok h ↔ fstAt b vs h := by
  unfold fst; exact Iff.rfl
theorem CellAt.fst {L L' : List Assn} {b o : Nat} {vs : List Value} {v : Value} (p : Pick (Cx.fst b vs) L L') (hv : vs[o]? = some v) : CellAt L b o v := fun h s => by
  obtain ⟨cs, t, fr, e, hc⟩ := fst_ok.1 (p.ok s)
  exact ⟨cs, t, fr, e, hc o v hv⟩
theorem bk_fst {b t : Nat} {vs ws : List Value} (h : PH) (k : (bk b t (vs ++ ws)).ok h) : (Cx.fst b vs).ok h := fst_ok.2 ⟨_, _, _, bk_ok.1 k, fun j v hj => by
  have := (List.getElem?_eq_some_iff.1 hj).1
  simp only [List.getElem?_toArray]
  rw [List.getElem?_append_left this]; exact hj⟩
/-- One of what is known in weaker words. -/
theorem Sep.weak1 {A B : Assn} {L M : List Assn} (p : Pick A L M) (hB : ∀ k, A.ok k → B.ok k) {h : PH} (s : Sep L h) : Sep (B :: M) h := by
  obtain ⟨S, a, b⟩ := p.sep s
  exact ⟨S, hB _ a, b⟩
end Go.Cx
/-! The statement StorePlays, in the program. -/
namespace Go.Cx
/-- An act on a store that is handed in. -/
structure A9V where
  z : Int
  n : Int
  ch : ChsV
  p : SlI
def a9c (A : A9V) : List Value := [.int .i64 A.z, .int .i64 A.n, .slice A.ch.a A.ch.l.length A.ch.c, .slice A.p.a A.p.l.length A.p.c]
structure A9V.ok (x : PH) (A : A9V) : Prop where
  z : -9223372036854775808 ≤ A.z ∧ A.z ≤ 9223372036854775807
  n : -9223372036854775808 ≤ A.n ∧ A.n ≤ 9223372036854775807
  ch : A.ch.ok x
  p : A.p.ok x
theorem a9_len (l : List A9V) : ∀ y ∈ l, (a9c y).length = 4 := fun _ _ => rfl
/-- Behind an act. -/
def After9 (n i : Nat) (q : StQ) : Prop := q.2.1.wf (2060 + (i + 1) * 2060) ∧
  ((q.2.1.dark = false ∧ ∃ bs t, CutG n (i + 1) q bs t) ∨
   (q.2.1.dark = true ∧ ∀ picks, ∃ Jx bx tx, GoodS n (2060 + (i + 1) * 2060) (q.2.1.crash picks) Jx bx tx ∧ Jx.n ≤ i + 2 ∧ wt tx ≤ (i + 1) * 25000))
theorem after_same {n i : Nat} {q : StQ} {bs : List Blk} {t : Tab} (h : CutG n i q bs t) : After9 n i q :=
  ⟨h.up.g.g.wf, .inl ⟨h.g.g.calm.lit, bs, t, h.up⟩⟩
theorem after_arm {n i : Nat} {J : JM} {D : DS} {a : Option Addr} {c : Nat} {tl : List RwV} {bs : List Blk} {t : Tab} (h : CutG n i (J, D, a, c, tl) bs t) (k : Int) (hk : k ≤ 9223372036854775807) : After9 n i (J, (D.arm k).2, a, c, tl) :=
  after_same (q := (J, (D.arm k).2, a, c, tl)) (bs := bs) (t := t) ⟨arm_at h.g k hk, h.j, h.w, h.t1, h.n1, h.c1⟩
theorem after_commit {n i : Nat} {J : JM} {D : DS} {a : Option Addr} {c : Nat} {tl : List RwV} {bs : List Blk} {t : Tab} (h : CutG n i (J, D, a, c, tl) bs t) (hi : i ≤ 39) {l : List ChM} (hW : MayC l → wl l ≤ 25000)
    (hw : (commitM J D t l).2.2.1.wf (2060 + (i + 1) * 2060)) {a6 : Option Addr} {c6 : Nat} {tl6 : List RwV} (ht6 : tl6.map RwV.m = (commitM J D t l).2.2.2) (hn6 : a6 = none → tl6.length = 0 ∧ c6 = 0) (hc6 : tl6.length ≤ c6) :
    After9 n i ((commitM J D t l).2.1, (commitM J D t l).2.2.1, a6, c6, tl6) := by
  obtain ⟨g, hj, hw0, ht1, hn1, hc1⟩ := h
  dsimp only at g hj hw0 ht1 hn1 hc1
  have hup : 2060 + i * 2060 ≤ 2060 + (i + 1) * 2060 := by omega
  have hw1 : wt t ≤ (i + 1) * 25000 := Nat.le_trans hw0 (Nat.mul_le_mul_right _ (Nat.le_succ i))
  have h39 : i * 25000 ≤ 975000 := Nat.mul_le_mul_right 25000 hi
  have hw25 : wt t + 25000 ≤ (i + 1) * 25000 := by rw [Nat.succ_mul]; exact Nat.add_le_add_right hw0 _
  by_cases hm : MayC l
  rotate_left
  · have e : commitM J D t l = (2, J, D, t) := by unfold commitM; rw [if_pos hm]
    rw [e] at ht6 hw ⊢
    exact ⟨hw, .inl ⟨g.g.calm.lit, bs, t, g.up hup, by dsimp only; omega, hw1, ht6, hn6, hc6⟩⟩
  by_cases h0 : l = []
  · subst h0
    rw [commit_none] at ht6 hw ⊢
    exact ⟨hw, .inl ⟨g.g.calm.lit, bs, t, g.up hup, by dsimp only; omega, hw1, ht6, hn6, hc6⟩⟩
  specialize hW hm
  have hwa := wt_apply t l
  rcases commit_out g (by omega) hm h0 (by omega) (by omega) hw with ⟨e, -⟩ | ⟨bs', -, ⟨J', D', e, hjn, gg, -⟩ | ⟨J', D', e, -, hdk, hcr⟩⟩
  · rw [e] at ht6 hw ⊢
    exact ⟨hw, .inl ⟨g.g.calm.lit, bs, t, g.up hup, by dsimp only; omega, hw1, ht6, hn6, hc6⟩⟩
  · rw [e] at ht6 hw ⊢
    exact ⟨hw, .inl ⟨gg.g.calm.lit, bs', _, gg, by dsimp only; omega, by omega, ht6, hn6, hc6⟩⟩
  · rw [e] at ht6 hw ⊢
    refine ⟨hw, .inr ⟨hdk, fun picks => ?_⟩⟩
    obtain ⟨Jx, bx, tx, gx, hjx, htx⟩ := hcr picks
    exact ⟨Jx, bx, tx, gx, by omega, by rcases htx with rfl | rfl <;> omega⟩
theorem dkR9 {L M : List Assn} {b q t t2 : Nat} {vs ws cs : List Value} (p : Sel L [bk b t (vs ++ ws), bk q t2 cs] M) : ∀ h, Sep L h → Sep [fst b vs, bk q t2 cs] h := fun h s => Sep.weak1 (.head _) bk_fst (p.sep s).left
theorem rdx_ownF9 {e : TypeId} {a : Option Addr} {B : Blk} {c : Nat} {L L' : List Assn} (p : Pick (ownF e a B c) L L') : ∀ y, Sep L y → rdx a B.length (cb B) y := fun y hy => by
  have := own_rdx (ownF_own y (p.ok hy)) (one_cb _)
  rwa [Nat.mul_one] at this
theorem val_two {t : Tab} {k B B' : Blk} {d d' : Bool} (h1 : d = true → val t k = some B) (h2 : d = false → val t k = none ∧ B = []) (h3 : d' = true → val t k = some B') (h4 : d' = false → val t k = none ∧ B' = []) : B' = B ∧ d' = d := by
  cases d <;> cases d'
  · exact ⟨by rw [(h2 rfl).2, (h4 rfl).2], rfl⟩
  · have := h3 rfl; rw [(h2 rfl).1] at this; cases this
  · have := h1 rfl; rw [(h4 rfl).1] at this; cases this
  · have := h1 rfl; rw [h3 rfl] at this; exact ⟨Option.some.inj this, rfl⟩
end Go.Cx
namespace Go.Proofs.YtlckhaodecdbbaaGreatDoor
open Go.Cx
attribute [local irreducible] Go.Cx.CX Go.Cx.CC Go.Cx.CQ Go.Cx.PS Go.Cx.Ctr Go.Cx.CH
set_option maxRecDepth 10000
set_option maxHeartbeats 4000000 in
theorem plays9_c (n : Nat) (hn : n < 256) (l : List A9V) (a : Option Addr) (c : Nat) (key : Blk) : Ctr Tryz.prog 4 [.int .u8 (n : Int), .slice a l.length c, sv key] [] (fun x => (rdx a (l.length * 4) (rows a9c l) x ∧ ∀ A ∈ l, A.ok x) ∧ errG x) (fun v M => v = .bool true ∧ M = []) := by
  have hmd := made9_c (64 + n) (by omega) (by omega)
  rw [show ((64 + n : Nat) : Int) = (64 : Int) + (n : Int) from by omega] at hmd
  refine Ctr.intro Tryz.func4 rfl Tryz.ntmps4 rfl fun x w hp => ?_
  obtain ⟨⟨hp, hoks⟩, hpE⟩ := hp
  refine wk ?_
  refine CX.callA (hmd) ?_
  rintro _ _ ⟨dk, d, r, s0, p0, t0, q0, D0, rfl, rfl, g0⟩
  refine wk ?_
  refine CC.loop (X := Nat × (Nat × Nat × Nat × Nat) × StQ) (fun u => [(10, .int .i64 (u.1 : Int)), (1, .slice a l.length c), (2, sv key), (7, .int .i64 (64 + (n : Int))), (8, .pointer (some ⟨dk, 0, none⟩)), (9, .bool true)])
    (fun u => [bk dk 53 (dk9 d r u.2.1.1 u.2.1.2.2.1), bk u.2.1.1 79 (stc u.2.1.2.1 u.2.2.2.2.1 u.2.2.2.2.2.2.length u.2.2.2.2.2.1), bk u.2.1.2.1 123 (jrc d u.2.2.1), disk d u.2.2.2.1, tabA u.2.2.2.2.1 u.2.2.2.2.2.2, rstA u.2.1.2.2.1 u.2.1.2.2.2, rjA u.2.1.2.2.2 r, rdisk r u.2.2.2.1, exact x])
    (fun u => u.1 ≤ 40 ∧ ∃ bs tb, CutG (64 + n) u.1 u.2.2 bs tb) (fun u => 40 - u.1) (0, (s0, p0, t0, q0), (⟨1, HdM.z⟩, D0, none, 0, [])) ⟨Nat.zero_le _, [], [], g0, Nat.le_refl _, Nat.zero_le _, rfl, fun _ => ⟨rfl, rfl⟩, Nat.le_refl _⟩ ⟨rfl, rfl, rfl, rfl, rfl, rfl, trivial⟩ (by exact selA) ?_
  clear g0 hmd
  rintro ⟨i, ⟨s, p, t, q⟩, ⟨J, D, a1, c1, tl⟩⟩ ⟨hi, bs, tb, hG⟩
  dsimp only at hi hG ⊢
  have hw : D.wf (2060 + i * 2060) := hG.g.g.wf
  by_cases h1 : i < l.length ∧ i < 40
  rotate_left
  · by_cases h2 : i < l.length
    · have h3 : ¬ (i : Int) < 40 := by omega
      refine wk ?_
      refine CC.loop (X := Nat) (fun k => [(16, .int .i64 (k : Int)), (7, .int .i64 (64 + (n : Int))), (8, .pointer (some ⟨dk, 0, none⟩))]) (fun k => [bk dk 53 (dk9 d r s t), disk d D, rdisk r D, exact x]) (fun k => k ≤ 64 + n) (fun k => 64 + n - k) 0 (Nat.zero_le _) ⟨rfl, rfl, rfl, trivial⟩ (by exact selA) ?_
      intro k hk
      by_cases h4 : k < 64 + n
      · have h5 : (k : Int) < 64 + (n : Int) := by omega
        have hX := sureAt_WB hw (k : Int)
        have hs1 := sure_c d D (k : Int) hw
        have hs2 := rsure_c r D (k : Int) hw
        generalize D.sureAt (k : Int) = X at *
        refine wk ?_
        refine CX.callA (hs1) ?_
        rintro _ _ ⟨rfl, rfl⟩
        refine wk ?_
        refine CX.allocZ (cb zblk) ?_
        intro q13
        (apply CX.storeAll; (· rfl); (· rfl); (· rfl); (· first | exact pickA | exact updA); (· exact hX.len); (· exact WB_z.len); (· exact one_cb _))
        refine wk ?_
        refine CX.callA (hs2) ?_
        rintro _ _ ⟨rfl, rfl⟩
        refine wk ?_
        refine CX.allocZ (cb zblk) ?_
        intro q15
        (apply CX.storeAll; (· rfl); (· rfl); (· rfl); (· first | exact pickA | exact updA); (· exact hX.len); (· exact WB_z.len); (· exact one_cb _))
        refine wk ?_
        (apply CX.ps; (· apply PS.loadG (vs := cb X.1); (· rfl); (· rfl); (· exact CellsAt.all (by first | exact pickA | exact updA)); (· exact hX.len)))
        (apply CX.ps; (· apply PS.loadG (vs := cb X.1); (· rfl); (· rfl); (· exact CellsAt.all (by first | exact pickA | exact updA)); (· exact hX.len)))
        (apply CX.ps; (· refine PS.toF (PS.neqB (a := X.1) (b := X.1) ?_ ?_ ?_ ?_ ?_) ?_; (· rfl); (· rfl); (· rfl); (· exact hX); (· exact hX); (· simp)))
        refine wk ?_
        exact CQ.round (k + 1) h4 (by omega) ⟨eqI (by omega), rfl, rfl, trivial⟩ (by exact selA)
      · have h5 : ¬ (k : Int) < 64 + (n : Int) := by omega
        refine wk ?_
        refine CX.callA (lives9_c) ?_ (hpre := by exact errG_ex (by first | exact pickA | exact updA) hpE)
        rintro _ _ ⟨rfl, rfl⟩
        refine wk ?_
        ((apply CQ.end1; (· rfl); (· exact .tmp rfl)); (· exact ⟨rfl, rfl⟩); (· exact selA))
    · refine wk ?_
      refine CC.loop (X := Nat) (fun k => [(16, .int .i64 (k : Int)), (7, .int .i64 (64 + (n : Int))), (8, .pointer (some ⟨dk, 0, none⟩))]) (fun k => [bk dk 53 (dk9 d r s t), disk d D, rdisk r D, exact x]) (fun k => k ≤ 64 + n) (fun k => 64 + n - k) 0 (Nat.zero_le _) ⟨rfl, rfl, rfl, trivial⟩ (by exact selA) ?_
      intro k hk
      by_cases h4 : k < 64 + n
      · have h5 : (k : Int) < 64 + (n : Int) := by omega
        have hX := sureAt_WB hw (k : Int)
        have hs1 := sure_c d D (k : Int) hw
        have hs2 := rsure_c r D (k : Int) hw
        generalize D.sureAt (k : Int) = X at *
        refine wk ?_
        refine CX.callA (hs1) ?_
        rintro _ _ ⟨rfl, rfl⟩
        refine wk ?_
        refine CX.allocZ (cb zblk) ?_
        intro q13
        (apply CX.storeAll; (· rfl); (· rfl); (· rfl); (· first | exact pickA | exact updA); (· exact hX.len); (· exact WB_z.len); (· exact one_cb _))
        refine wk ?_
        refine CX.callA (hs2) ?_
        rintro _ _ ⟨rfl, rfl⟩
        refine wk ?_
        refine CX.allocZ (cb zblk) ?_
        intro q15
        (apply CX.storeAll; (· rfl); (· rfl); (· rfl); (· first | exact pickA | exact updA); (· exact hX.len); (· exact WB_z.len); (· exact one_cb _))
        refine wk ?_
        (apply CX.ps; (· apply PS.loadG (vs := cb X.1); (· rfl); (· rfl); (· exact CellsAt.all (by first | exact pickA | exact updA)); (· exact hX.len)))
        (apply CX.ps; (· apply PS.loadG (vs := cb X.1); (· rfl); (· rfl); (· exact CellsAt.all (by first | exact pickA | exact updA)); (· exact hX.len)))
        (apply CX.ps; (· refine PS.toF (PS.neqB (a := X.1) (b := X.1) ?_ ?_ ?_ ?_ ?_) ?_; (· rfl); (· rfl); (· rfl); (· exact hX); (· exact hX); (· simp)))
        refine wk ?_
        exact CQ.round (k + 1) h4 (by omega) ⟨eqI (by omega), rfl, rfl, trivial⟩ (by exact selA)
      · have h5 : ¬ (k : Int) < 64 + (n : Int) := by omega
        refine wk ?_
        refine CX.callA (lives9_c) ?_ (hpre := by exact errG_ex (by first | exact pickA | exact updA) hpE)
        rintro _ _ ⟨rfl, rfl⟩
        refine wk ?_
        ((apply CQ.end1; (· rfl); (· exact .tmp rfl)); (· exact ⟨rfl, rfl⟩); (· exact selA))
  obtain ⟨h1, h2⟩ := h1
  obtain ⟨g, off, rfl⟩ := rdx_some hp (by omega)
  have hok := hoks l[i] (List.getElem_mem h1)
  have hcs : ∀ {L L' : List Assn}, Pick (exact x) L L' → CellsAt L g (off + i * 4) (a9c l[i]) := fun pk => CellsAt.row pk hp (by omega) (a9_len l) h1
  generalize l[i] = A at *
  refine wk ?_
  (refine CX.indexA (i) ?_ ?_; (· exact h1))
  (apply CX.ps; (· apply PS.loadG (vs := a9c A); (· rfl); (· rfl); (· exact hcs (by first | exact pickA | exact updA)); (· rfl)))
  refine CX.allocZ [.int .i64 0, .int .i64 0, .slice none 0 0, .slice none 0 0] ?_ (hv := rfl)
  intro b11
  (refine CX.storeB (vs := a9c A) ?_ ?_ ?_ ?_; (· rfl); (· rfl); (· exact one_all rfl))
  have hG0 := hG
  obtain ⟨gS, hj, hw0, ht1, hn1, hc1⟩ := hG
  dsimp only at gS hj hw0 ht1 hn1 hc1
  have hlt := wt_len' ht1
  have hmt : MayR (tl.map RwV.m) := by rw [ht1]; exact gS.may
  have h39 : i * 25000 ≤ 975000 := Nat.mul_le_mul_right 25000 (show i ≤ 39 by omega)
  have hchl := hok.ch.le
  apply CC.share (P := Tryz.prog) (n := 217) (e0 := w) (X := (Nat × Nat × Nat × Nat) × StQ) (fun u => [(10, .int .i64 (i : Int)), (1, .slice (some ⟨g, off, none⟩) l.length c), (2, sv key), (7, .int .i64 (64 + (n : Int))), (8, .pointer (some ⟨dk, 0, none⟩)), (9, .bool true), (11, .pointer (some ⟨b11, 0, none⟩))])
    (fun u => [bk dk 53 (dk9 d r u.1.1 u.1.2.2.1), bk u.1.1 79 (stc u.1.2.1 u.2.2.2.1 u.2.2.2.2.2.length u.2.2.2.2.1), bk u.1.2.1 123 (jrc d u.2.1), disk d u.2.2.1, tabA u.2.2.2.1 u.2.2.2.2.2, rstA u.1.2.2.1 u.1.2.2.2, rjA u.1.2.2.2 r, rdisk r u.2.2.1, bk b11 49 (a9c A), exact x]) (fun u => After9 (64 + n) i u.2)
  · intro fin
    by_cases hz0 : A.z = 0
    · refine wk ?_
      refine CC.draw [(0, 0), (1, 1), (2, 2), (3, 0), (4, 0), (5, 0), (6, 0), (7, 0), (8, 1), (9, 0), (10, 1), (12, 0), (13, 0), (14, 0), (15, 1), (16, 0), (17, 1), (11, 2), (18, 2), (19, 0), (20, 0)] mixed rfl (by kernel_rfl) (by kernel_rfl) [bk dk 53 (dk9 d r s t), bk b11 49 (a9c A)] ?_
      refine hwk ?_
      refine CH.chain rfl fun K hK => ?_
      refine CX.callA (great_c A.ch.a A.ch.l A.ch.c (Nat.le_trans hok.ch.le hok.ch.max)) ?_ (hpre := by exact ch_ex (by first | exact pickA | exact updA) hok.ch.r)
      rintro _ _ ⟨gr, rfl, rfl, hsm⟩
      (refine CX.nil ?_; refine CQ.thenK ?_; apply hK; (· exact selA); clear hK K)
      cases gr with
      | true =>
        refine hwk ?_
        refine wk ?_
        have f := fin ((s, p, t, q), (J, D, a1, c1, tl)) (after_same hG0)
        apply CC.weak (h := f)
        · exact ⟨rfl, rfl, rfl, rfl, rfl, rfl, rfl, trivial⟩
        · exact selA
      | false =>
        have hsmall := hsm rfl
        have hW : MayC (A.ch.l.map ChV.m) → wl (A.ch.l.map ChV.m) ≤ 25000 := hsmall.wl
        have hr200 := hsmall.1
        have hsc := scommit_c s p d gS.g (by omega) (by omega) A.ch.l tl hmt (by omega) (fun h => by have := hW h; rw [ht1]; omega) (by rw [ht1]; omega) A.ch.a a1 A.ch.c c1 hchl hc1 hn1
        rw [ht1] at hsc
        unfold CommitP at hsc
        have hrc := r9commit_c t q r gS (by omega) (by omega) A.ch.l (by omega) (fun h => by have := hW h; omega) (by omega) A.ch.a A.ch.c
        have haf := fun hw a6 c6 tl6 h1 h2 h3 => after_commit (a6 := a6) (c6 := c6) (tl6 := tl6) hG0 (by omega) hW hw h1 h2 h3
        generalize commitM J D tb (A.ch.l.map ChV.m) = u at *
        refine hwk ?_
        refine CH.chain rfl fun K hK => ?_
        refine CX.callA (hsc) ?_ (hpre := by exact fun y hy => ⟨ch_ex (by first | exact pickA | exact updA) hok.ch.r y hy, errG_ex (by first | exact pickA | exact updA) hpE y hy⟩)
        rintro _ _ ⟨a6, c6, tl6, rfl, rfl, ht6, hn6, hc6, hw6⟩
        rw [show 2060 + i * 2060 + 2060 = 2060 + (i + 1) * 2060 by omega] at hw6
        (refine CX.nil ?_; refine CQ.thenK ?_; apply hK; (· exact selA); clear hK K)
        refine CH.chain rfl fun K hK => ?_
        refine CX.callA (hrc) ?_ (hpre := by exact ch_ex (by first | exact pickA | exact updA) hok.ch.r)
        rintro _ _ ⟨rfl, rfl⟩
        (refine CX.nil ?_; refine CQ.thenK ?_; apply hK; (· exact selA); clear hK K)
        refine hwk ?_
        refine wk ?_
        have f := fin ((s, p, t, q), (u.2.1, u.2.2.1, a6, c6, tl6)) (haf hw6 a6 c6 tl6 ht6 hn6 hc6)
        apply CC.weak (h := f)
        · exact ⟨rfl, rfl, rfl, rfl, rfl, rfl, rfl, trivial⟩
        · exact selA
    · by_cases hz1 : A.z = 1
      · have hop := open9_c dk d r s t gS (by omega)
        refine wk ?_
        refine CX.callA (hop) ?_
        rintro _ _ ⟨rfl, s', p', a', tl', c', t', q', rfl, ht', hn', hc'⟩
        refine wk ?_
        have f := fin ((s', p', t', q'), (J, D, a', c', tl')) (after_same (q := (J, D, a', c', tl')) (bs := bs) (t := tb) ⟨gS, hj, hw0, ht', hn', hc'⟩)
        apply CC.weak (h := f)
        · exact ⟨rfl, rfl, rfl, rfl, rfl, rfl, rfl, trivial⟩
        · exact selA
      · have haft := after_arm hG0 A.n hok.n.2
        have h64 := hw.lo
        have hja := arm_c d D A.n
        have hra := rarm_c r D A.n (by omega)
        generalize D.arm A.n = u at *
        refine wk ?_
        refine CC.draw [(0, 0), (1, 0), (2, 0), (3, 1), (4, 0), (5, 1), (7, 0), (8, 0), (9, 0), (10, 1), (11, 0), (12, 1), (6, 2), (13, 2), (14, 0), (15, 0)] mixed rfl (by kernel_rfl) (by kernel_rfl) [bk dk 53 (dk9 d r s t), bk b11 49 (a9c A)] ?_
        refine hwk ?_
        refine CH.chain rfl fun K hK => ?_
        refine CX.callA (hja) ?_
        rintro _ _ ⟨rfl, rfl⟩
        (refine CX.nil ?_; refine CQ.thenK ?_; apply hK; (· exact selA); clear hK K)
        refine CH.chain rfl fun K hK => ?_
        refine CX.callA (hra) ?_
        rintro _ _ ⟨rfl, rfl⟩
        (refine CX.nil ?_; refine CQ.thenK ?_; apply hK; (· exact selA); clear hK K)
        refine hwk ?_
        refine wk ?_
        have f := fin ((s, p, t, q), (J, u.2, a1, c1, tl)) haft
        apply CC.weak (h := f)
        · exact ⟨rfl, rfl, rfl, rfl, rfl, rfl, rfl, trivial⟩
        · exact selA
  clear hG0 gS hj hw0 ht1 hn1 hc1 hlt hmt hw
  rintro ⟨⟨s, p, t, q⟩, J, D, a1, c1, tl⟩ ⟨hw', haft⟩
  dsimp only at hw' haft ⊢
  have h40 : (i + 1) * 25000 ≤ 1000000 := Nat.mul_le_mul_right 25000 (show i + 1 ≤ 40 by omega)
  apply CX.share (P := Tryz.prog) (n := 217) (e0 := w) (X := (Nat × Nat × Nat × Nat) × StQ) (fun u => [(135, .pointer (some ⟨u.1.1, 0, none⟩)), (136, sv key), (10, .int .i64 (i : Int)), (1, .slice (some ⟨g, off, none⟩) l.length c), (2, sv key), (7, .int .i64 (64 + (n : Int))), (8, .pointer (some ⟨dk, 0, none⟩)), (9, .bool true)])
    (fun u => [bk dk 53 (dk9 d r u.1.1 u.1.2.2.1), bk u.1.1 79 (stc u.1.2.1 u.2.2.2.1 u.2.2.2.2.2.length u.2.2.2.2.1), bk u.1.2.1 123 (jrc d u.2.1), disk d u.2.2.1, tabA u.2.2.2.1 u.2.2.2.2.2, rstA u.1.2.2.1 u.1.2.2.2, rjA u.1.2.2.2 r, rdisk r u.2.2.1, exact x]) (fun u => ∃ bs tb, CutG (64 + n) (i + 1) u.2 bs tb)
  · intro fin
    rcases haft with ⟨hd, bs', tb', hG'⟩ | ⟨hd, hcr⟩
    · refine CC.draw [(0, 0), (1, 0), (2, 0), (3, 0), (4, 0), (5, 0), (6, 1), (8, 0), (9, 0), (10, 0), (11, 1), (7, 2), (12, 2), (13, 0), (14, 0)] mixed rfl (by kernel_rfl) (by kernel_rfl) [bk dk 53 (dk9 d r s t)] ?_
      refine hwk ?_
      refine CH.chain rfl fun K hK => ?_
      refine CX.callA (dark_c d D) ?_
      rw [hd]
      rintro _ _ ⟨rfl, rfl⟩
      (refine CX.nil ?_; refine CQ.thenK ?_; apply hK; (· exact selA); clear hK K)
      refine CH.chain rfl fun K hK => ?_
      refine CX.callA (rdark_c r D) ?_
      rw [hd]
      rintro _ _ ⟨rfl, rfl⟩
      (refine CX.nil ?_; refine CQ.thenK ?_; apply hK; (· exact selA); clear hK K)
      refine CH.pure rfl (PS.neqBool false rfl Tryz.underlying4 rfl rfl rfl) ?_
      refine hwk ?_
      refine wk ?_
      refine CC.draw [(0, 0), (1, 0), (2, 0), (3, 1), (4, 2), (5, 0), (6, 0), (7, 0), (8, 0), (9, 1), (10, 0), (11, 1), (13, 0), (14, 0), (15, 0), (16, 1), (17, 0), (18, 1), (12, 2), (19, 2), (20, 0), (21, 0), (22, 0), (23, 2), (24, 0), (25, 0), (26, 0)] mixed rfl (by kernel_rfl) (by kernel_rfl) [bk dk 53 (dk9 d r s t), bk b11 49 (a9c A)] ?_
      refine hwk ?_
      refine CH.chain rfl fun K hK => ?_
      refine CX.callA (dark_c d D) ?_
      rw [hd]
      rintro _ _ ⟨rfl, rfl⟩
      (refine CX.nil ?_; refine CQ.thenK ?_; apply hK; (· exact selA); clear hK K)
      refine hwk ?_
      refine wk ?_
      have f := fin ((s, p, t, q), (J, D, a1, c1, tl)) ⟨bs', tb', hG'⟩
      apply CX.weak (h := f)
      · exact ⟨rfl, rfl, rfl, rfl, rfl, rfl, rfl, rfl, trivial⟩
      · exact selA
    · obtain ⟨Jx, bx, tx, gx, hjx, hwx⟩ := hcr A.p.l
      have hc1' := crash_c d D A.p.l A.p.a A.p.c hw' (by omega)
      have hc2' := rcrash_c r D A.p.l A.p.a A.p.c hw' (by omega)
      have hop := open9_c dk d r s t gx (by omega)
      generalize D.crash A.p.l = D2 at *
      refine CC.draw [(0, 0), (1, 0), (2, 0), (3, 0), (4, 0), (5, 0), (6, 1), (8, 0), (9, 0), (10, 0), (11, 1), (7, 2), (12, 2), (13, 0), (14, 0)] mixed rfl (by kernel_rfl) (by kernel_rfl) [bk dk 53 (dk9 d r s t)] ?_
      refine hwk ?_
      refine CH.chain rfl fun K hK => ?_
      refine CX.callA (dark_c d D) ?_
      rw [hd]
      rintro _ _ ⟨rfl, rfl⟩
      (refine CX.nil ?_; refine CQ.thenK ?_; apply hK; (· exact selA); clear hK K)
      refine CH.chain rfl fun K hK => ?_
      refine CX.callA (rdark_c r D) ?_
      rw [hd]
      rintro _ _ ⟨rfl, rfl⟩
      (refine CX.nil ?_; refine CQ.thenK ?_; apply hK; (· exact selA); clear hK K)
      refine CH.pure rfl (PS.neqBool false rfl Tryz.underlying4 rfl rfl rfl) ?_
      refine hwk ?_
      refine wk ?_
      refine CC.draw [(0, 0), (1, 0), (2, 0), (3, 1), (4, 2), (5, 0), (6, 0), (7, 0), (8, 0), (9, 1), (10, 0), (11, 1), (13, 0), (14, 0), (15, 0), (16, 1), (17, 0), (18, 1), (12, 2), (19, 2), (20, 0), (21, 0), (22, 0), (23, 2), (24, 0), (25, 0), (26, 0)] mixed rfl (by kernel_rfl) (by kernel_rfl) [fst dk [.pointer (some ⟨d, 0, none⟩), .pointer (some ⟨r, 0, none⟩)], bk b11 49 (a9c A)] ?_
      refine hwk ?_
      refine CH.readW (PS.load (v := .pointer (some ⟨d, 0, none⟩)) rfl rfl (CellAt.fst (by first | exact pickA | exact updA) rfl)) (dkR9 (by exact selA)) ?_
      refine CH.chainW fun K hK => ?_
      refine CX.callA (dark_c d D) ?_
      rw [hd]
      rintro _ _ ⟨rfl, rfl⟩
      (refine CX.nil ?_; refine CQ.thenK ?_; apply hK; (· exact dkR9 (by exact selA)); clear hK K)
      refine hwk ?_
      refine CH.readW (PS.load (v := .pointer (some ⟨d, 0, none⟩)) rfl rfl (CellAt.fst (by first | exact pickA | exact updA) rfl)) (dkR9 (by exact selA)) ?_
      refine hwk ?_
      refine CH.readW (PS.load (v := .slice A.p.a A.p.l.length A.p.c) rfl rfl (CellAt.pick (by first | exact pickA | exact updA) rfl)) (dkR9 (by exact selA)) ?_
      refine hwk ?_
      refine CH.readW (PS.load (v := .pointer (some ⟨r, 0, none⟩)) rfl rfl (CellAt.fst (by first | exact pickA | exact updA) rfl)) (dkR9 (by exact selA)) ?_
      refine hwk ?_
      refine CH.readW (PS.load (v := .slice A.p.a A.p.l.length A.p.c) rfl rfl (CellAt.pick (by first | exact pickA | exact updA) rfl)) (dkR9 (by exact selA)) ?_
      refine CH.chainW fun K hK => ?_
      refine CX.callA (hc1') ?_ (hpre := by exact rdx_ex (by first | exact pickA | exact updA) hok.p.r)
      rintro _ _ ⟨rfl, rfl⟩
      (refine CX.nil ?_; refine CQ.thenK ?_; apply hK; (· exact dkR9 (by exact selA)); clear hK K)
      refine CH.chainW fun K hK => ?_
      refine CX.callA (hc2') ?_ (hpre := by exact rdx_ex (by first | exact pickA | exact updA) hok.p.r)
      rintro _ _ ⟨rfl, rfl⟩
      (refine CX.nil ?_; refine CQ.thenK ?_; apply hK; (· exact dkR9 (by exact selA)); clear hK K)
      refine hwk ?_
      refine CH.chainW fun K hK => ?_
      refine CX.callA (hop) ?_
      rintro _ _ ⟨rfl, s', p', a', tl', c', t', q', rfl, ht', hn', hc'⟩
      (refine CX.nil ?_; refine CQ.thenK ?_; apply hK; (· exact dkR9 (by exact selA)); clear hK K)
      refine hwk ?_
      refine wk ?_
      have f := fin ((s', p', t', q'), (Jx, D2, a', c', tl')) ⟨bx, tx, gx, hjx, hwx, ht', hn', hc'⟩
      apply CX.weak (h := f)
      · exact ⟨rfl, rfl, rfl, rfl, rfl, rfl, rfl, rfl, trivial⟩
      · exact selA
  clear haft hw'
  rintro ⟨⟨s, p, t, q⟩, J, D, a1, c1, tl⟩ ⟨bs, tb, hG⟩
  have hG0 := hG
  obtain ⟨gS, hj, hw0, ht1, hn1, hc1⟩ := hG
  dsimp only at gS hj hw0 ht1 hn1 hc1 ⊢
  have hlt := wt_len' ht1
  have hmt : MayR (tl.map RwV.m) := by rw [ht1]; exact gS.may
  refine CX.callA (svalue_c s p a1 tl c1 (by omega) hmt key) ?_
  rintro _ _ ⟨a7, B7, c7, d7, rfl, rfl, hv7, hv7'⟩
  rw [ht1] at hv7 hv7'
  refine wk ?_
  refine CX.callA (r9value_c t q r gS (by omega) (by omega) key) ?_
  rintro _ _ ⟨a8, B8, c8, d8, rfl, rfl, hv8, hv8'⟩
  obtain ⟨rfl, rfl⟩ := val_two hv7 hv7' hv8 hv8'
  clear hv7 hv7' hv8 hv8'
  refine wk ?_
  refine CC.draw [(0, 0), (1, 0), (2, 0), (3, 1), (5, 0), (6, 0), (7, 0), (8, 1), (4, 2), (9, 2), (10, 2), (11, 0), (12, 0), (13, 0), (14, 0), (15, 0), (16, 1), (18, 0), (19, 0), (20, 0), (21, 1), (17, 2), (22, 2), (23, 0), (24, 0), (25, 0), (26, 0), (27, 0), (28, 2), (29, 0), (30, 0), (31, 0), (32, 0), (33, 0), (34, 0), (35, 0)] mixed rfl (by kernel_rfl) (by kernel_rfl) [bk dk 53 (dk9 d r s t)] ?_
  refine hwk ?_
  refine CH.chain rfl fun K hK => ?_
  refine CX.callA (srowsT_c s p a1 tl c1 (by omega) hn1 (may_small hmt)) ?_
  rintro _ _ ⟨a4, c4, l4, rfl, rfl, ht4⟩
  (refine CX.nil ?_; refine CQ.thenK ?_; apply hK; (· exact selA); clear hK K)
  refine CH.chain rfl fun K hK => ?_
  refine CX.callA (r9rows_c t q r gS (by omega)) ?_
  rintro _ _ ⟨a5, l5, c5, rfl, rfl, ht5, hn5, hc5⟩
  have hl4 := wt_len' (ht4.trans ht1)
  have hl5 := wt_len' ht5
  (refine CX.nil ?_; refine CQ.thenK ?_; apply hK; (· exact selA); clear hK K)
  refine CH.chain rfl fun K hK => ?_
  refine CX.callA (eqmR_c l4 l5 (by omega) a4 a5 c4 c5 (by omega)) ?_ (hpre := by exact fun y hy => ⟨rw_tab (a := a4) (l := l4) (by first | exact pickA | exact updA) y hy, rw_tab (a := a5) (l := l5) (by first | exact pickA | exact updA) y hy⟩)
  rw [decide_eq_true (ht4.trans (ht1.trans ht5.symm))]
  rintro _ _ ⟨rfl, rfl⟩
  (refine CX.nil ?_; refine CQ.thenK ?_; apply hK; (· exact selA); clear hK K)
  refine hwk ?_
  refine CH.chain rfl fun K hK => ?_
  refine CX.callA (sroom_c s p d (.slice a1 tl.length c1) gS.g) ?_
  rintro _ _ ⟨rfl, rfl⟩
  (refine CX.nil ?_; refine CQ.thenK ?_; apply hK; (· exact selA); clear hK K)
  refine CH.chain rfl fun K hK => ?_
  refine CX.callA (r9room_c t q r gS.g (by omega)) ?_
  rintro _ _ ⟨rfl, rfl⟩
  (refine CX.nil ?_; refine CQ.thenK ?_; apply hK; (· exact selA); clear hK K)
  refine hwk ?_
  refine CH.chain rfl fun K hK => ?_
  refine CX.callA (same_c B8 B8 a7 a8 c7 c8) ?_ (hpre := by exact fun y hy => ⟨rdx_ownF9 (e := 5) (a := a7) (by first | exact pickA | exact updA) y hy, rdx_own (a := a8) (by first | exact pickA | exact updA) rfl y hy⟩)
  rw [decide_eq_true rfl]
  rintro _ _ ⟨rfl, rfl⟩
  (refine CX.nil ?_; refine CQ.thenK ?_; apply hK; (· exact selA); clear hK K)
  refine hwk ?_
  refine CH.pure rfl (PS.neqBool false (by cases d8 <;> rfl) Tryz.underlying4 rfl rfl rfl) ?_
  refine hwk ?_
  refine wk ?_
  refine CQ.round (x := (i, (s0, p0, t0, q0), (J, D, a1, c1, tl))) (i + 1, (s, p, t, q), (J, D, a1, c1, tl)) ?_ (by dsimp only; omega) ⟨eqI (by omega), rfl, rfl, rfl, rfl, rfl, trivial⟩ (by exact selA)
  exact ⟨by dsimp only; omega, bs, tb, hG0⟩
end Go.Proofs.YtlckhaodecdbbaaGreatDoor
/-! What may be read of acts on a store. -/
namespace Go.Proofs.YtlckhaodecdbbaaGreatDoor
open Go.Cx
theorem rec_a9 {H : Type} {enc : TypeId × Value → H} {w : World} {base : Nat} {spare : Nat → Bool} {held : Bool} :
    Rec enc Tryz.prog w base spare held 49 (fun A : A9V => A.ok w.ph) a9c := fun n cs x h => by
  obtain ⟨hl, m, hf⟩ := trod_fields Tryz.underlying49 h
  have c0 : Tryz.prog.cellsOf 3 = 1 := by kernel_rfl
  have c2 : Tryz.prog.cellsOf 34 = 1 := by kernel_rfl
  have c3 : Tryz.prog.cellsOf 24 = 1 := by kernel_rfl
  have c5 : Tryz.prog.cellsOf 49 = 4 := by kernel_rfl
  obtain ⟨y0, e0⟩ : ∃ y, DataW.trod enc Tryz.prog w base spare held m 3 ((cs.drop 0).take (Tryz.prog.cellsOf 3)) = some y := hf 0 _ rfl
  rw [c0] at e0
  obtain ⟨y1, e1⟩ : ∃ y, DataW.trod enc Tryz.prog w base spare held m 3 ((cs.drop 1).take (Tryz.prog.cellsOf 3)) = some y := hf 1 _ rfl
  rw [c0] at e1
  obtain ⟨y2, e2⟩ : ∃ y, DataW.trod enc Tryz.prog w base spare held m 34 ((cs.drop 2).take (Tryz.prog.cellsOf 34)) = some y := hf 2 _ rfl
  rw [c2] at e2
  obtain ⟨y3, e3⟩ : ∃ y, DataW.trod enc Tryz.prog w base spare held m 24 ((cs.drop 3).take (Tryz.prog.cellsOf 24)) = some y := hf 3 _ rfl
  rw [c3] at e3
  obtain ⟨a, wa, f0⟩ := rec_int Tryz.underlying3 _ _ _ e0
  obtain ⟨b, wb, f1⟩ := rec_int Tryz.underlying3 _ _ _ e1
  obtain ⟨ch, wc, f2⟩ := rec_chs _ _ _ e2
  obtain ⟨ps, wps, f3⟩ := rec_ints Tryz.underlying24 Tryz.underlying3 (by kernel_rfl) _ _ _ e3
  refine ⟨⟨a, b, ch, ps⟩, ⟨wf_i64 wa, wf_i64 wb, wc, wps⟩, ?_⟩
  have h0 : cs = cs.drop 0 := rfl
  have hend : cs.drop (3 + 1) = [] := List.drop_of_length_le (by rw [hl, c5]; omega)
  rw [h0, drop_part cs 0 1 f0, drop_part cs (0 + 1) 1 f1, drop_part cs (0 + 1 + 1) 1 f2, drop_part cs (0 + 1 + 1 + 1) 1 f3, show 0 + 1 + 1 + 1 + 1 = 3 + 1 by omega, hend]
  simp [a9c, ChsV.cells, SlI.cells]
end Go.Proofs.YtlckhaodecdbbaaGreatDoor
