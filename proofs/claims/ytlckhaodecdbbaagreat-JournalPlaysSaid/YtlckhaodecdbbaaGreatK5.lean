/- Part K5: Jd, Je, Jf, Jg, Jh, Jk, Rf, L6, L6n, Rh, Js, Ji, Jt, Jp. -/
import Derived.Test.YtlckhaodecdbbaaGreatK3
import Derived.Test.YtlckhaodecdbbaaGreatK4
set_option linter.unusedVariables false
set_option linter.unusedSimpArgs false
/-! The journal's small methods, in the program. -/
namespace Go.Cx
/-- A journal's cells, on the disk at d. -/
def jrc (d : Nat) (J : JM) : List Value := [.pointer (some ⟨d, 0, none⟩), .int .u64 (J.n : Int), .int .u8 (J.h.bank : Int), .int .u32 (J.h.blocks : Int), .int .u32 (J.h.batches : Int)]
theorem bank_int {n : Nat} (h : 64 ≤ n) (h2 : n ≤ 4096) : IntKind.i64.wrap (((n : Int) - 2).tdiv 2) = ((((n - 2) / 2 : Nat)) : Int) := by
  rw [tdiv_nn (by omega), wr_i64 (by omega) (by omega)]; omega
end Go.Cx
namespace Go.Proofs.YtlckhaodecdbbaaGreat
open Go.Cx
attribute [local irreducible] Go.Cx.CX Go.Cx.CC Go.Cx.CQ Go.Cx.PS Go.Cx.Ctr Go.Cx.CH
set_option maxRecDepth 10000
theorem jnone_c (p d : Nat) (J : JM) : Ctr Tryz.prog 61 [.pointer (some ⟨p, 0, none⟩)] [bk p 91 (jrc d J)] (fun _ => True) (fun v M => v = .bool false ∧ M = [bk p 91 (jrc d J)]) := by
  refine Ctr.intro Tryz.func61 rfl Tryz.ntmps61 rfl fun x w hp => ?_
  refine wk ?_
  ((apply CQ.end1; (· rfl); (· exact .tmp rfl)); (· exact ⟨rfl, rfl⟩); (· exact selA))
theorem jnone0_c : Ctr Tryz.prog 61 [.pointer none] [] (fun _ => True) (fun v M => v = .bool true ∧ M = []) := by
  refine Ctr.intro Tryz.func61 rfl Tryz.ntmps61 rfl fun x w hp => ?_
  refine wk ?_
  ((apply CQ.end1; (· rfl); (· exact .tmp rfl)); (· exact ⟨rfl, rfl⟩); (· exact selA))
theorem jnoneZ_c (p : Nat) (cs : List Value) : Ctr Tryz.prog 61 [.pointer (some ⟨p, 0, none⟩)] [bk p 91 (.pointer none :: cs)] (fun _ => True) (fun v M => v = .bool true ∧ M = [bk p 91 (.pointer none :: cs)]) := by
  refine Ctr.intro Tryz.func61 rfl Tryz.ntmps61 rfl fun x w hp => ?_
  refine wk ?_
  ((apply CQ.end1; (· rfl); (· exact .tmp rfl)); (· exact ⟨rfl, rfl⟩); (· exact selA))
theorem jbank_c (p d : Nat) (J : JM) (D : DS) {N : Nat} (h : D.wf N) : Ctr Tryz.prog 62 [.pointer (some ⟨p, 0, none⟩)] [bk p 91 (jrc d J), disk d D] (fun _ => True) (fun v M => v = .int .i64 (bankM D : Int) ∧ M = [bk p 91 (jrc d J), disk d D]) := by
  have h1 := h.lo
  have h2 := h.hi
  refine Ctr.intro Tryz.func62 rfl Tryz.ntmps62 rfl fun x w hp => ?_
  refine wk ?_
  refine CX.callA (blocks_c d D) ?_
  rintro _ _ ⟨rfl, rfl⟩
  refine wk ?_
  refine CX.ps (PS.quo rfl rfl rfl (by decide) (bank_int h1 h2)) ?_
  refine wk ?_
  ((apply CQ.end1; (· rfl); (· exact .tmp rfl)); (· exact ⟨rfl, rfl⟩); (· exact selA))
theorem jfirst_c (p d : Nat) (J : JM) (D : DS) (b : Nat) (hb : b < 256) {N : Nat} (h : D.wf N) : Ctr Tryz.prog 66 [.pointer (some ⟨p, 0, none⟩), .int .u8 (b : Int)] [bk p 91 (jrc d J), disk d D] (fun _ => True) (fun v M => v = .int .i64 (firstM D b : Int) ∧ M = [bk p 91 (jrc d J), disk d D]) := by
  have h2 := h.hi
  have hbk : bankM D ≤ 2048 := by unfold bankM; omega
  have hmul : b * bankM D ≤ 256 * 2048 := Nat.mul_le_mul (by omega) hbk
  refine Ctr.intro Tryz.func66 rfl Tryz.ntmps66 rfl fun x w hp => ?_
  refine wk ?_
  refine CX.callA (jbank_c p d J D h) ?_
  rintro _ _ ⟨rfl, rfl⟩
  refine CX.ps (PS.mul (z := ((b * bankM D : Nat) : Int)) rfl rfl rfl (by rw [← Int.natCast_mul]; exact wr_i64 (by omega) (by omega))) ?_
  unfold firstM
  generalize b * bankM D = z at hmul
  refine wk ?_
  ((apply CQ.end1; (· rfl); (· exact .tmp rfl)); (· exact ⟨by congr 1, rfl⟩); (· exact selA))
theorem jboth_c (p d : Nat) (J : JM) (D : DS) {N : Nat} (h : D.wf N) (hN : N < 1000000) : Ctr Tryz.prog 56 [.pointer (some ⟨p, 0, none⟩)] [bk p 91 (jrc d J), disk d D] (fun _ => True)
    (fun v M => v = .tuple #[.agg (cb (bothM D).1).toArray, .agg (cb (bothM D).2.1).toArray, .int .i64 (bothM D).2.2] ∧ M = [bk p 91 (jrc d J), disk d D]) := by
  refine Ctr.intro Tryz.func56 rfl Tryz.ntmps56 rfl fun x w hp => ?_
  have w0 := read_WB h 0
  have w1 := read_WB h 1
  refine wk ?_
  refine CX.allocZ (cb zblk) ?_
  intro q2
  refine CX.allocZ (cb zblk) ?_
  intro q3
  refine wk ?_
  refine CX.callA (read_c d D 0 h hN) ?_
  rintro _ _ ⟨rfl, rfl⟩
  by_cases he : (D.read 0).2 = 0
  · have hb : bothM D = ((D.read 0).1, (D.read 1).1, (D.read 1).2) := by unfold bothM; rw [if_neg (by simp [he])]
    rw [hb, he]
    generalize (D.read 0).1 = X at *
    refine wk ?_
    (apply CX.storeAll; (· rfl); (· rfl); (· rfl); (· first | exact pickA | exact updA); (· exact w0.len); (· exact WB_z.len); (· exact one_cb _))
    refine wk ?_
    refine CX.callA (read_c d D 1 h hN) ?_
    rintro _ _ ⟨rfl, rfl⟩
    generalize hY : D.read 1 = Y at *
    refine wk ?_
    (apply CX.storeAll; (· rfl); (· rfl); (· rfl); (· first | exact pickA | exact updA); (· exact w1.len); (· exact WB_z.len); (· exact one_cb _))
    refine wk ?_
    refine CC.draw [(0, 1), (1, 1), (2, 0), (3, 2), (4, 3), (5, 0)] mixed rfl (by kernel_rfl) (by kernel_rfl) [bk q2 32 (cb X), bk q3 32 (cb Y.1)] ?_
    (apply CH.read; (· rfl); (· apply PS.loadG (vs := cb X); (· rfl); (· rfl); (· exact CellsAt.all (by first | exact pickA | exact updA)); (· exact w0.len)); (· exact selA))
    (apply CH.read; (· rfl); (· apply PS.loadG (vs := cb Y.1); (· rfl); (· rfl); (· exact CellsAt.all (by first | exact pickA | exact updA)); (· exact w1.len)); (· exact selA))
    refine hwk ?_
    refine CH.chain rfl fun K hK => ?_
    (apply CX.storeAll; (· rfl); (· rfl); (· rfl); (· first | exact pickA | exact updA); (· exact w0.len); (· exact w0.len); (· exact one_cb _))
    (refine CX.nil ?_; refine CQ.thenK ?_; apply hK; (· exact selA); clear hK K)
    refine CH.tail rfl rfl fun K hK => ?_
    (apply CX.storeAll; (· rfl); (· rfl); (· rfl); (· first | exact pickA | exact updA); (· exact w1.len); (· exact w1.len); (· exact one_cb _))
    (refine CX.nil ?_; refine CQ.thenK ?_; apply hK; clear hK K)
    refine hwk ?_
    refine wk ?_
    (apply CQ.end3; (· rfl); (· exact .cells inferInstance rfl (CellsAt.all (by first | exact pickA | exact updA)) (w0.len)); (· exact .cells inferInstance rfl (CellsAt.all (by first | exact pickA | exact updA)) (w1.len)); (· exact .tmp rfl))
    · exact ⟨rfl, rfl⟩
    · exact selA
  · have hb : bothM D = ((D.read 0).1, zblk, (D.read 0).2) := by unfold bothM; rw [if_pos he]
    rw [hb]
    generalize D.read 0 = X at *
    refine wk ?_
    (apply CX.storeAll; (· rfl); (· rfl); (· rfl); (· first | exact pickA | exact updA); (· exact w0.len); (· exact WB_z.len); (· exact one_cb _))
    refine wk ?_
    refine CC.draw [(0, 1), (1, 1), (2, 0), (3, 2), (4, 3), (5, 0)] mixed rfl (by kernel_rfl) (by kernel_rfl) [bk q2 32 (cb X.1), bk q3 32 (cb zblk)] ?_
    (apply CH.read; (· rfl); (· apply PS.loadG (vs := cb X.1); (· rfl); (· rfl); (· exact CellsAt.all (by first | exact pickA | exact updA)); (· exact w0.len)); (· exact selA))
    (apply CH.read; (· rfl); (· apply PS.loadG (vs := cb zblk); (· rfl); (· rfl); (· exact CellsAt.all (by first | exact pickA | exact updA)); (· exact WB_z.len)); (· exact selA))
    refine hwk ?_
    refine CH.chain rfl fun K hK => ?_
    (apply CX.storeAll; (· rfl); (· rfl); (· rfl); (· first | exact pickA | exact updA); (· exact w0.len); (· exact w0.len); (· exact one_cb _))
    (refine CX.nil ?_; refine CQ.thenK ?_; apply hK; (· exact selA); clear hK K)
    refine CH.tail rfl rfl fun K hK => ?_
    (apply CX.storeAll; (· rfl); (· rfl); (· rfl); (· first | exact pickA | exact updA); (· exact WB_z.len); (· exact WB_z.len); (· exact one_cb _))
    (refine CX.nil ?_; refine CQ.thenK ?_; apply hK; clear hK K)
    refine hwk ?_
    refine wk ?_
    (apply CQ.end3; (· rfl); (· exact .cells inferInstance rfl (CellsAt.all (by first | exact pickA | exact updA)) (w0.len)); (· exact .cells inferInstance rfl (CellsAt.all (by first | exact pickA | exact updA)) (WB_z.len)); (· exact .tmp rfl))
    · exact ⟨rfl, rfl⟩
    · exact selA
def planM : Pl := .op 0 0 (.op 1 0 (.op 2 0 (.op 3 1 (.op 4 0 (.op 5 1 (.fork 6 10 (.op 7 0 (.op 8 0 (.op 9 0 (.op 10 2 (.op 11 2 (.op 12 0 .nil)))))) (.op 6 2 (.op 7 0 (.op 8 0 (.op 9 0 (.op 11 2 (.op 12 0 .nil))))))))))))
theorem jmark_c (p d : Nat) (J : JM) (hJ : J.n < 4611686018427387904) (k : HdM) (hk : k.ok) (D : DS) {N : Nat} (h : D.wf N) (hN : N < 1000000) : Ctr Tryz.prog 85 [.pointer (some ⟨p, 0, none⟩), .agg (hc k).toArray] [bk p 91 (jrc d J), disk d D] (fun _ => True)
    (fun v M => v = .int .i64 (markM J k D).1 ∧ M = [bk p 91 (jrc d J), disk d (markM J k D).2]) := by
  have hw1 : WB (bothM D).1 := by unfold bothM; split <;> exact read_WB h 0
  have hw2 : WB (bothM D).2.1 := by
    unfold bothM; split
    · exact WB_z
    · exact read_WB h 1
  have hw3 : WB (putH (J.n + 1) k).1 := by
    unfold putH; split
    · exact WB_z
    · exact sealB_WB (by rw [bytes_len]; omega)
  refine Ctr.intro Tryz.func85 rfl Tryz.ntmps85 rfl fun x w hp => ?_
  refine wk ?_
  (refine CX.boxA (vs := hc k) ?_; intro q3)
  refine wk ?_
  refine CX.callA (jboth_c p d J D h hN) ?_
  unfold markM
  generalize bothM D = o at *
  rintro _ _ ⟨rfl, rfl⟩
  refine wk ?_
  refine CX.allocZ (cb zblk) ?_
  intro q5
  refine CX.allocZ (cb zblk) ?_
  intro q6
  (apply CX.storeAll; (· rfl); (· rfl); (· rfl); (· first | exact pickA | exact updA); (· exact hw1.len); (· exact WB_z.len); (· exact one_cb _))
  (apply CX.storeAll; (· rfl); (· rfl); (· rfl); (· first | exact pickA | exact updA); (· exact hw2.len); (· exact WB_z.len); (· exact one_cb _))
  by_cases he : o.2.2 = 0
  rotate_left
  · rw [if_pos he]
    refine wk ?_
    ((apply CQ.end1; (· rfl); (· exact .tmp rfl)); (· exact ⟨rfl, rfl⟩); (· exact selA))
  rw [if_neg (by simp [he]), he]
  refine wk ?_
  refine CC.join (X := Nat) (fun b => [(0, .pointer (some ⟨p, 0, none⟩)), (5, .pointer (some ⟨q5, 0, none⟩)), (6, .pointer (some ⟨q6, 0, none⟩)), (7, .int .i64 (putH (J.n + 1) k).2), (8, .pointer (some ⟨b, 0, none⟩))])
    (fun b => [bk p 91 (jrc d J), disk d D, bk q5 32 (cb o.1), bk q6 32 (cb o.2.1), bk b 32 (cb (putH (J.n + 1) k).1), exact x]) (fun _ => True) ?_ ?_
  · have hput := hput_c (J.n + 1) (by simp only [top]; omega) k hk
    generalize putH (J.n + 1) k = u at *
    refine CC.drawP planM (fun _ => false) mixed rfl (by kernel_rfl) (by kernel_rfl) [bk p 91 (jrc d J), bk q3 36 (hc k)] ?_
    unfold planM
    refine hqk ?_
    refine CP.read ?_ (hp := PS.loadG (vs := hc k) rfl rfl (CellsAt.all (by first | exact pickA | exact updA)) rfl)
    refine CP.fork ?_ ?_
    · intro K hK
      refine CX.callA (hput) ?_
      rintro _ _ ⟨rfl, rfl⟩
      (refine CX.nil ?_; refine CQ.thenK ?_; apply hK; (· exact selA); clear hK K)
      refine hqk ?_
      refine CP.act ?_
      intro K hK
      refine CX.allocZ (cb zblk) ?_
      intro q8
      (refine CX.nil ?_; refine CQ.thenK ?_; apply hK; (· exact selA); clear hK K)
      refine CP.act ?_
      intro K hK
      (apply CX.storeAll; (· rfl); (· rfl); (· rfl); (· first | exact pickA | exact updA); (· exact hw3.len); (· exact WB_z.len); (· exact one_cb _))
      (refine CX.nil ?_; refine CQ.thenK ?_; apply hK; (· exact selA); clear hK K)
      refine hqk ?_
      exact CQ.joined q8 trivial ⟨rfl, rfl, rfl, rfl, rfl, trivial⟩ (by exact selA)
    · intro K hK
      refine CX.allocZ (cb zblk) ?_
      intro q8
      (refine CX.nil ?_; refine CQ.thenK ?_; apply hK; (· exact selA); clear hK K)
      refine CP.act ?_
      intro K hK
      refine CX.callA (hput) ?_
      rintro _ _ ⟨rfl, rfl⟩
      (refine CX.nil ?_; refine CQ.thenK ?_; apply hK; (· exact selA); clear hK K)
      refine hqk ?_
      refine CP.act ?_
      intro K hK
      (apply CX.storeAll; (· rfl); (· rfl); (· rfl); (· first | exact pickA | exact updA); (· exact hw3.len); (· exact WB_z.len); (· exact one_cb _))
      (refine CX.nil ?_; refine CQ.thenK ?_; apply hK; (· exact selA); clear hK K)
      refine hqk ?_
      exact CQ.joined q8 trivial ⟨rfl, rfl, rfl, rfl, rfl, trivial⟩ (by exact selA)
  · intro q8 _
    generalize putH (J.n + 1) k = u at *
    by_cases hu : u.2 = 0
    rotate_left
    · rw [if_pos hu]
      refine wk ?_
      ((apply CQ.end1; (· rfl); (· exact .tmp rfl)); (· exact ⟨rfl, rfl⟩); (· exact selA))
    rw [if_neg (by simp [hu]), hu]
    refine wk ?_
    refine CC.draw [(0, 0), (1, 0), (2, 0), (3, 1), (4, 1), (5, 1), (7, 1), (6, 2), (8, 2), (9, 0)] mixed rfl (by kernel_rfl) (by kernel_rfl) [bk p 91 (jrc d J), bk q5 32 (cb o.1), bk q6 32 (cb o.2.1), bk q8 32 (cb u.1)] ?_
    refine hwk ?_
    (apply CH.read; (· rfl); (· apply PS.loadG (vs := cb o.1); (· rfl); (· rfl); (· exact CellsAt.all (by first | exact pickA | exact updA)); (· exact hw1.len)); (· exact selA))
    (apply CH.read; (· rfl); (· apply PS.loadG (vs := cb o.2.1); (· rfl); (· rfl); (· exact CellsAt.all (by first | exact pickA | exact updA)); (· exact hw2.len)); (· exact selA))
    (apply CH.read; (· rfl); (· apply PS.loadG (vs := cb u.1); (· rfl); (· rfl); (· exact CellsAt.all (by first | exact pickA | exact updA)); (· exact hw3.len)); (· exact selA))
    refine CH.chain rfl fun K hK => ?_
    refine CX.callA (snext_c o.1 o.2.1 hw1 hw2) ?_
    rintro _ _ ⟨rfl, rfl⟩
    (refine CX.nil ?_; refine CQ.thenK ?_; apply hK; (· exact selA); clear hK K)
    refine CH.chain rfl fun K hK => ?_
    refine CX.callA (write_c d D (nextM o.1 o.2.1) u.1 hw3 h hN) ?_
    rintro _ _ ⟨rfl, rfl⟩
    (refine CX.nil ?_; refine CQ.thenK ?_; apply hK; (· exact selA); clear hK K)
    refine hwk ?_
    refine wk ?_
    ((apply CQ.end1; (· rfl); (· exact .tmp rfl)); (· exact ⟨rfl, rfl⟩); (· exact selA))
end Go.Proofs.YtlckhaodecdbbaaGreat
/-! What the journal lays (run, lay), in the program. -/
namespace Go.Cx
/-- A step that the journal runs: a function value, and what it does to the disk. -/
def StepOk (P : Program) (H : DS → List Assn) (v : Value) (f : DS → Int × DS) (pre : PH → Prop) : Prop :=
  ∃ (k : FuncId) (first cap : List Value), v = .func (.func k) first.toArray cap.toArray ∧ HasFn P k ∧ ∀ N D, D.wf N → N < 999990 → (f D).2.wf (N + 1) ∧ Ctr P k (first ++ cap) (H D) pre (fun u M => u = .int .i64 (f D).1 ∧ M = H (f D).2)
theorem Ctr.frame1 {P : Program} {f : FuncId} {args : List Value} {A B : Assn} {post : Value → List Assn → Prop} (S : Ctr P f args [B] (fun _ => True) post) : Ctr P f args [A, B] (fun _ => True) (fun v M => ∃ M', post v M' ∧ M = M' ++ [A]) := by
  intro x w hs _
  have hs2 : Sep ([B] ++ [A, exact x]) w.ph := Sep.swap hs
  obtain ⟨y, hy, hl⟩ := hs2.rest
  refine (S y w hy trivial).mono ?_
  rintro e w' ⟨v, M, hp, rfl, hs', he⟩
  refine ⟨v, M ++ [A], ⟨M, hp, rfl⟩, rfl, ?_, he⟩
  rw [List.append_assoc]
  exact hs'.unrest hl
theorem cell_rdx1 {L L' : List Assn} {x : PH} {b : Nat} {v : Value} (p : Pick (exact x) L L') (h : rdx (some ⟨b, 0, none⟩) 1 [v] x) : CellAt L b 0 v := by
  rcases h with h | ⟨g, off, cs, t, fr, e, hx, hc⟩
  · omega
  · simp only [Option.some.injEq, Addr.mk.injEq, and_true] at e
    obtain ⟨rfl, rfl⟩ := e
    exact CellAt.exact p ⟨cs, t, fr, hx, by simpa using hc 0 v rfl⟩
theorem cells_rdxN {L L' : List Assn} {x : PH} {b n : Nat} {vs : List Value} (p : Pick (exact x) L L') (h0 : 0 < n) (h : rdx (some ⟨b, 0, none⟩) n vs x) : CellsAt L b 0 vs := by
  rcases h with h | ⟨g, off, cs, t, fr, e, hx, hc⟩
  · omega
  · simp only [Option.some.injEq, Addr.mk.injEq, and_true] at e
    obtain ⟨rfl, rfl⟩ := e
    exact CellsAt.exact p ⟨cs, t, fr, hx, hc⟩
/-- The boxes of what is written: the numbers, and the blocks. -/
def bxAt (bs : List (Nat × Nat)) (l : List Blk) (h : PH) : Prop := ∀ j (hj : j < bs.length), rdx (some ⟨bs[j].1, 0, none⟩) 1 [.int .i64 (j : Int)] h ∧ rdx (some ⟨bs[j].2, 0, none⟩) 128 (cb (l.getD j [])) h
theorem bxAt_mono {bs : List (Nat × Nat)} {l : List Blk} {x y : PH} (h : bxAt bs l x) (k : Le x y) : bxAt bs l y := fun j hj => ⟨rdx_mono (h j hj).1 k, rdx_mono (h j hj).2 k⟩
@[irreducible] def bxA (bs : List (Nat × Nat)) (l : List Blk) : Assn where
  ok h := bxAt bs l h
  mono := fun _ _ k e => bxAt_mono e k
theorem bxA_ok {bs : List (Nat × Nat)} {l : List Blk} {h : PH} : (bxA bs l).ok h ↔ bxAt bs l h := by
  unfold bxA; exact Iff.rfl
theorem bk_at {b t : Nat} {cs : List Value} {h : PH} (s : (bk b t cs).ok h) : rdx (some ⟨b, 0, none⟩) cs.length cs h :=
  .inr ⟨b, 0, _, _, _, rfl, bk_ok.1 s, fun j u hu => by simpa using hu⟩
theorem Sep.merge3 {A B C E : Assn} {L : List Assn} (hC : ∀ k, A.ok k → B.ok k → C.ok k → E.ok k) {h : PH} (s : Sep (A :: B :: C :: L) h) : Sep (E :: L) h := by
  obtain ⟨S, a, b⟩ := Sep.append (H := [A, B, C]) s
  exact ⟨S, hC _ a.head a.tail.head a.tail.tail.head, b⟩
section
variable {P : Program} {ops : Array Oper} {Q : Exit → Act → World → Prop} {n : Nat} {e0 : World} {env : Env} {L L' : List Assn} {rest : List Oper}
variable {dst : Option Tmp} {ty : TypeId} {pos : String} {aft : Array Edge} {g : Option (Nat × Bool)}
theorem CX.merge3 {A B C : Assn} {M1 M2 M3 : List Assn} (E : Assn) (hC : ∀ k, A.ok k → B.ok k → C.ok k → E.ok k) (h : CX P ops Q n e0 env (E :: M3) rest) (p : Pick A L M1 := by first | exact pickA | exact updA) (q : Pick B M1 M2 := by first | exact pickA | exact updA) (r : Pick C M2 M3 := by first | exact pickA | exact updA) : CX P ops Q n e0 env L rest :=
  CX.mem (fun _ s => Sep.merge3 hC (Sep.cons_mono (fun _ t => Sep.cons_mono (fun _ => r.sep) (q.sep t)) (p.sep s))) h
theorem CX.callS {H : DS → List Assn} {v : Value} {f : DS → Int × DS} {pre : PH → Prop} {y : Operand} {N : Nat} {D : DS} (S : StepOk P H v f pre) (hw : D.wf N) (hN : N < 999990)
    (h : (f D).2.wf (N + 1) → CX P ops Q n e0 (putE env dst (.int .i64 (f D).1)) (H (f D).2 ++ L') rest) (hy : ev n env y = some v) (hsel : Sel L (H D) L') (hpre : ∀ x, Sep L' x → pre x) (hg : gd ops n env g = some true := by rfl) :
    CX P ops Q n e0 env L (⟨dst, .call ⟨.value y, #[], #[]⟩, ty, pos, aft, g⟩ :: rest) := by
  obtain ⟨k, first, cap, rfl, inst, hS⟩ := S
  obtain ⟨hwf, hc⟩ := hS N D hw hN
  refine @CX.callV P ops Q n e0 env L rest dst ty pos aft g k inst y first.toArray cap.toArray [] #[] [] (H D) L' pre _ hg hy rfl (by simpa using hc) hsel hpre ?_
  rintro u M ⟨rfl, rfl⟩
  exact h hwf
end
end Go.Cx
namespace Go.Proofs.YtlckhaodecdbbaaGreat
open Go.Cx
attribute [local irreducible] Go.Cx.CX Go.Cx.CC Go.Cx.CQ Go.Cx.PS Go.Cx.Ctr Go.Cx.CH
set_option maxRecDepth 10000
theorem jlay1_c (p d : Nat) (J : JM) (b4 b5 q10 q11 : Nat) (at_ i : Nat) (hat : at_ ≤ 1000000) (hi : i ≤ 1000000) (b : Blk) (hb : WB b) (D : DS) {N : Nat} (h : D.wf N) (hN : N < 1000000) :
    Ctr Tryz.prog 82 [.pointer (some ⟨b4, 0, none⟩), .pointer (some ⟨b5, 0, none⟩), .pointer (some ⟨q10, 0, none⟩), .pointer (some ⟨q11, 0, none⟩)] [bk p 91 (jrc d J), disk d D]
      (fun x => rdx (some ⟨b4, 0, none⟩) 1 [.pointer (some ⟨p, 0, none⟩)] x ∧ rdx (some ⟨b5, 0, none⟩) 1 [.int .i64 (at_ : Int)] x ∧ rdx (some ⟨q10, 0, none⟩) 1 [.int .i64 (i : Int)] x ∧ rdx (some ⟨q11, 0, none⟩) 128 (cb b) x)
      (fun v M => v = .int .i64 (D.write ((at_ : Int) + (i : Int)) b).1 ∧ M = [bk p 91 (jrc d J), disk d (D.write ((at_ : Int) + (i : Int)) b).2]) := by
  refine Ctr.intro Tryz.func82 rfl Tryz.ntmps82 rfl fun x w hp => ?_
  obtain ⟨hp1, hp2, hp3, hp4⟩ := hp
  refine wk ?_
  refine CC.draw [(0, 1), (1, 0), (2, 0), (3, 1), (4, 1), (5, 1), (6, 0), (7, 1), (8, 2), (9, 0)] mixed rfl (by kernel_rfl) (by kernel_rfl) [bk p 91 (jrc d J), exact x] ?_
  (apply CH.read; (· rfl); (· apply PS.load (v := .pointer (some ⟨p, 0, none⟩)); (· rfl); (· rfl); (· exact cell_rdx1 (by first | exact pickA | exact updA) hp1)); (· exact selA))
  refine hwk ?_
  (apply CH.read; (· rfl); (· apply PS.load (v := .int .i64 (at_ : Int)); (· rfl); (· rfl); (· exact cell_rdx1 (by first | exact pickA | exact updA) hp2)); (· exact selA))
  (apply CH.read; (· rfl); (· apply PS.load (v := .int .i64 (i : Int)); (· rfl); (· rfl); (· exact cell_rdx1 (by first | exact pickA | exact updA) hp3)); (· exact selA))
  refine hwk ?_
  (apply CH.read; (· rfl); (· apply PS.loadG (vs := cb b); (· rfl); (· rfl); (· exact cells_rdxN (by first | exact pickA | exact updA) (by decide) hp4); (· exact hb.len)); (· exact selA))
  refine CH.chain rfl fun K hK => ?_
  refine CX.callA (write_c d D ((at_ : Int) + (i : Int)) b hb h hN) ?_
  rintro _ _ ⟨rfl, rfl⟩
  (refine CX.nil ?_; refine CQ.thenK ?_; apply hK; (· exact selA); clear hK K)
  refine hwk ?_
  refine wk ?_
  ((apply CQ.end1; (· rfl); (· exact .tmp rfl)); (· exact ⟨rfl, rfl⟩); (· exact selA))
theorem jlay2_c (p d : Nat) (J : JM) (hJ : J.n < 4611686018427387904) (b4 b7 : Nat) (k : HdM) (hk : k.ok) (D : DS) {N : Nat} (h : D.wf N) (hN : N < 1000000) :
    Ctr Tryz.prog 84 [.pointer (some ⟨b4, 0, none⟩), .pointer (some ⟨b7, 0, none⟩)] [bk p 91 (jrc d J), disk d D]
      (fun x => rdx (some ⟨b4, 0, none⟩) 1 [.pointer (some ⟨p, 0, none⟩)] x ∧ rdx (some ⟨b7, 0, none⟩) 3 (hc k) x)
      (fun v M => v = .int .i64 (markM J k D).1 ∧ M = [bk p 91 (jrc d J), disk d (markM J k D).2]) := by
  refine Ctr.intro Tryz.func84 rfl Tryz.ntmps84 rfl fun x w hp => ?_
  obtain ⟨hp1, hp2⟩ := hp
  refine wk ?_
  (apply CX.ps; (· apply PS.load (v := .pointer (some ⟨p, 0, none⟩)); (· rfl); (· rfl); (· exact cell_rdx1 (by first | exact pickA | exact updA) hp1)))
  (apply CX.ps; (· apply PS.loadG (vs := hc k); (· rfl); (· rfl); (· exact cells_rdxN (by first | exact pickA | exact updA) (by decide) hp2); (· rfl)))
  refine CX.callA (jmark_c p d J hJ k hk D h hN) ?_
  rintro _ _ ⟨rfl, rfl⟩
  refine wk ?_
  ((apply CQ.end1; (· rfl); (· exact .tmp rfl)); (· exact ⟨rfl, rfl⟩); (· exact selA))
theorem jrun_c (H : DS → List Assn) (hH : ∃ p d J, H = fun D => [bk p 91 (jrc d J), disk d D]) (ss : List (Value × (DS → Int × DS))) (a : Option Addr) (c : Nat) (pre : PH → Prop) (hmono : ∀ x y, Le x y → pre x → pre y) (hs : ∀ s ∈ ss, StepOk Tryz.prog H s.1 s.2 pre) (D : DS) {N : Nat} (h : D.wf N) (hN : N + ss.length < 999990) :
    Ctr Tryz.prog 86 [.slice a ss.length c] (H D) (fun x => rdx a ss.length (ss.map (·.1)) x ∧ pre x) (fun v M => v = .int .i64 (runM (ss.map (·.2)) D).1 ∧ M = H (runM (ss.map (·.2)) D).2 ∧ (runM (ss.map (·.2)) D).2.wf (N + ss.length)) := by
  obtain ⟨p, d, J, rfl⟩ := hH
  refine Ctr.intro Tryz.func86 rfl Tryz.ntmps86 rfl fun x w hp => ?_
  obtain ⟨hp1, hp2⟩ := hp
  dsimp only
  refine wk ?_
  refine CC.loop (X := Nat × DS) (fun s => [(8, .int .i64 (s.1 : Int)), (7, .int .i64 (ss.length : Int)), (6, .slice a ss.length c)])
    (fun s => [bk p 91 (jrc d J), disk d s.2, exact x]) (fun s => s.1 ≤ ss.length ∧ s.2.wf (N + s.1) ∧ runM (ss.map (·.2)) D = runM ((ss.drop s.1).map (·.2)) s.2) (fun s => ss.length - s.1) (0, D) ⟨Nat.zero_le _, h, rfl⟩ ⟨rfl, rfl, rfl, trivial⟩ (by exact selA) ?_
  rintro ⟨i, E⟩ ⟨hi, hE, hrun⟩
  dsimp only at hi hE hrun ⊢
  by_cases h1 : i < ss.length
  · obtain ⟨g, off, rfl⟩ := rdx_some hp1 (by omega)
    rw [List.drop_eq_getElem_cons h1, List.map_cons, runM] at hrun
    have hst := hs ss[i] (List.getElem_mem h1)
    have hcell : ∀ (L L' : List Assn), Pick (exact x) L L' → CellAt L g (off + i * 1) (ss[i]).1 := fun L L' pk y hy => by
      rcases hp1 with hp1 | ⟨g', off', cs, t, fr, e, hx, hc⟩
      · omega
      · simp only [Option.some.injEq, Addr.mk.injEq, and_true] at e
        obtain ⟨rfl, rfl⟩ := e
        exact ⟨cs, t, fr, pk.ok hy _ _ hx, by rw [Nat.mul_one]; exact hc i _ (by simp [h1])⟩
    generalize ss[i] = s at *
    refine wk ?_
    (refine CX.indexA (i) ?_ ?_; (· exact h1))
    (apply CX.ps; (· apply PS.load (v := s.1); (· rfl); (· rfl); (· exact hcell _ _ (by first | exact pickA | exact updA))))
    refine wk ?_
    refine CX.callS hst hE (by omega) ?_ rfl (by exact selA) (fun y hy => hmono x y (Pick.ok (show Pick (exact x) _ _ from by first | exact pickA | exact updA) hy) hp2)
    intro hwf
    by_cases he : (s.2 E).1 = 0
    · rw [if_neg (by simp [he])] at hrun
      rw [he]
      refine wk ?_
      exact CQ.round (x := (i, E)) (i + 1, (s.2 E).2) ⟨by dsimp only; omega, by dsimp only; rw [← Nat.add_assoc]; exact hwf, hrun⟩ (by dsimp only; omega) ⟨eqI (by simp), rfl, rfl, trivial⟩ (by exact selA)
    · rw [if_pos he] at hrun
      rw [hrun]
      refine wk ?_
      (apply CQ.end1; (· rfl); (· exact .tmp rfl))
      · exact ⟨rfl, rfl, wf_up hwf (by omega)⟩
      · exact selA
  · obtain rfl : i = ss.length := by omega
    rw [List.drop_length, List.map_nil, runM] at hrun
    rw [hrun]
    refine wk ?_
    (apply CQ.end1; (· rfl); (· exact .tmp rfl))
    · exact ⟨rfl, rfl, hE⟩
    · exact selA
end Go.Proofs.YtlckhaodecdbbaaGreat
/-! What the journal lays (lay), in the program. -/
namespace Go.Cx
theorem bx_snoc {bs : List (Nat × Nat)} {l : List Blk} {t1 t2 q10 q11 i : Nat} {b : Blk} (hw : WB b) (hbs : bs.length = i) (hi : l.getD i [] = b) (h : PH) (s : (bxA bs l).ok h) (k1 : (bk q10 t1 [.int .i64 (i : Int)]).ok h) (k2 : (bk q11 t2 (cb b)).ok h) : (bxA (bs ++ [(q10, q11)]) l).ok h := bxA_ok.2 fun j hj => by
  have s' := bxA_ok.1 s
  by_cases e : j < bs.length
  · rw [List.getElem_append_left e]; exact s' j e
  · have ej : j = i := by rw [List.length_append, List.length_singleton] at hj; omega
    have eg : (bs ++ [(q10, q11)])[j] = (q10, q11) := by rw [List.getElem_append_right (by omega)]; simp
    rw [eg]
    refine ⟨?_, ?_⟩
    · have := bk_at k1; rw [ej]; exact this
    · have := bk_at k2; rw [hw.len] at this; rw [ej, hi]; exact this
theorem rdx_bkok {b t n : Nat} {cs : List Value} {L L' : List Assn} (p : Pick (bk b t cs) L L') (hn : cs.length = n) : ∀ y, Sep L y → rdx (some ⟨b, 0, none⟩) n cs y := fun y hy => by
  have := bk_at (p.ok hy); rwa [hn] at this
theorem layS_len (J : JM) (at_ : Nat) (l : List Blk) (h : HdM) : (layS J at_ l h).length = l.length + 3 := by simp [layS, writesM]
end Go.Cx
namespace Go.Proofs.YtlckhaodecdbbaaGreat
open Go.Cx
attribute [local irreducible] Go.Cx.CX Go.Cx.CC Go.Cx.CQ Go.Cx.PS Go.Cx.Ctr Go.Cx.CH
set_option maxRecDepth 10000
def stepV (b4 b5 : Nat) (q : Nat × Nat) : Value := .func (.func 82) #[] #[.pointer (some ⟨b4, 0, none⟩), .pointer (some ⟨b5, 0, none⟩), .pointer (some ⟨q.1, 0, none⟩), .pointer (some ⟨q.2, 0, none⟩)]
def flV (d : Nat) : Value := .func (.func 83) #[.pointer (some ⟨d, 0, none⟩)] #[]
def mkV (b4 b7 : Nat) : Value := .func (.func 84) #[] #[.pointer (some ⟨b4, 0, none⟩), .pointer (some ⟨b7, 0, none⟩)]
theorem one_steps (b4 b5 b7 d : Nat) (bs : List (Nat × Nat)) : ∀ u ∈ bs.map (stepV b4 b5) ++ [flV d, mkV b4 b7, flV d], u.oneCell' = true := fun u hu => by
  rcases List.mem_append.1 hu with hu | hu
  · obtain ⟨q, _, rfl⟩ := List.mem_map.1 hu; rfl
  · simp only [List.mem_cons, List.not_mem_nil, or_false] at hu
    rcases hu with rfl | rfl | rfl <;> rfl
/-- What the steps read. -/
def stPre (p b4 b5 b7 at_ : Nat) (k : HdM) (bs : List (Nat × Nat)) (l : List Blk) (x : PH) : Prop :=
  rdx (some ⟨b4, 0, none⟩) 1 [.pointer (some ⟨p, 0, none⟩)] x ∧ rdx (some ⟨b5, 0, none⟩) 1 [.int .i64 (at_ : Int)] x ∧ rdx (some ⟨b7, 0, none⟩) 3 (hc k) x ∧ bxAt bs l x
theorem stPre_mono {p b4 b5 b7 at_ : Nat} {k : HdM} {bs : List (Nat × Nat)} {l : List Blk} (x y : PH) (h : Le x y) (s : stPre p b4 b5 b7 at_ k bs l x) : stPre p b4 b5 b7 at_ k bs l y :=
  ⟨rdx_mono s.1 h, rdx_mono s.2.1 h, rdx_mono s.2.2.1 h, bxAt_mono s.2.2.2 h⟩
theorem Ctr.weakPre {f : FuncId} {args : List Value} {H : List Assn} {pre : PH → Prop} {post : Value → List Assn → Prop} (S : Ctr Tryz.prog f args H (fun _ => True) post) : Ctr Tryz.prog f args H pre post := Ctr.mono S (fun _ _ => trivial) (fun _ _ h => h)
theorem steps_ok (p d b4 b5 b7 at_ : Nat) (J : JM) (hJ : J.n < 4611686018427387904) (k : HdM) (hk : k.ok) (bs : List (Nat × Nat)) (l : List Blk) (hW : ∀ b ∈ l, WB b) (hbs : bs.length = l.length) (hat : at_ ≤ 1000000) (hll : l.length ≤ 5000) :
    ∀ s ∈ (bs.map (stepV b4 b5) ++ [flV d, mkV b4 b7, flV d]).zip (layS J at_ l k), StepOk Tryz.prog (fun D => [bk p 91 (jrc d J), disk d D]) s.1 s.2 (stPre p b4 b5 b7 at_ k bs l) := by
  intro s hs
  have hfl : StepOk Tryz.prog (fun D => [bk p 91 (jrc d J), disk d D]) (flV d) DS.flush (stPre p b4 b5 b7 at_ k bs l) :=
    ⟨83, [.pointer (some ⟨d, 0, none⟩)], [], rfl, inferInstance, fun N D h hN => ⟨flush_wf h, Ctr.conseq (Ctr.weakPre (Ctr.frame1 (flush_c d D h (by omega)))) fun v M hv => by
      obtain ⟨M', ⟨rfl, rfl⟩, rfl⟩ := hv
      exact ⟨_, ⟨rfl, rfl⟩, fun x h hs => Sep.swap hs⟩⟩⟩
  have hmk : StepOk Tryz.prog (fun D => [bk p 91 (jrc d J), disk d D]) (mkV b4 b7) (markM J k) (stPre p b4 b5 b7 at_ k bs l) :=
    ⟨84, [], [.pointer (some ⟨b4, 0, none⟩), .pointer (some ⟨b7, 0, none⟩)], rfl, inferInstance, fun N D h hN => ⟨mark_wf h, Ctr.mono (jlay2_c p d J hJ b4 b7 k hk D h (by omega)) (fun x hx => ⟨hx.1, hx.2.2.1⟩) (fun _ _ h => h)⟩⟩
  obtain ⟨i, hi, rfl⟩ := List.getElem_of_mem hs
  rw [List.getElem_zip]
  have hi2 : i < l.length + 3 := by simp [layS_len, hbs] at hi; omega
  have hlw : (writesM at_ l).length = l.length := by simp [writesM]
  by_cases h1 : i < l.length
  · have e1 : (bs.map (stepV b4 b5) ++ [flV d, mkV b4 b7, flV d])[i]'(by simp; omega) = stepV b4 b5 (bs[i]'(by omega)) := by
      rw [List.getElem_append_left (by simpa [hbs] using h1)]; simp
    have e2 : (layS J at_ l k)[i]'(by rw [layS_len]; omega) = fun D => D.write ((at_ : Int) + (i : Int)) l[i] := by
      simp only [layS]
      rw [List.getElem_append_left (by rw [hlw]; exact h1)]
      simp [writesM, h1]
    rw [e1, e2]
    have hb := hW l[i] (List.getElem_mem h1)
    refine ⟨82, [], [.pointer (some ⟨b4, 0, none⟩), .pointer (some ⟨b5, 0, none⟩), .pointer (some ⟨(bs[i]'(by omega)).1, 0, none⟩), .pointer (some ⟨(bs[i]'(by omega)).2, 0, none⟩)], rfl, inferInstance, fun N D h hN => ⟨write_wf h _ hb, Ctr.mono (jlay1_c p d J b4 b5 _ _ at_ i hat (by omega) l[i] hb D h (by omega)) (fun x hx => ⟨hx.1, hx.2.1, ?_⟩) (fun _ _ h => h)⟩⟩
    have := hx.2.2.2 i (by omega)
    have eg : l.getD i [] = l[i] := by simp [List.getD, h1]
    rw [eg] at this
    exact this
  · obtain ⟨j, rfl⟩ : ∃ j, i = l.length + j := ⟨i - l.length, by omega⟩
    have hj : j < 3 := by omega
    have e1 : (bs.map (stepV b4 b5) ++ [flV d, mkV b4 b7, flV d])[l.length + j]'(by simp; omega) = [flV d, mkV b4 b7, flV d][j] := by
      rw [List.getElem_append_right (by simp; omega)]; simp [hbs]
    have e2 : (layS J at_ l k)[l.length + j]'(by rw [layS_len]; omega) = [DS.flush, markM J k, DS.flush][j] := by
      simp only [layS]
      rw [List.getElem_append_right (by omega)]; simp [hlw]
    rw [e1, e2]
    match j, hj with
    | 0, _ => exact hfl
    | 1, _ => exact hmk
    | 2, _ => exact hfl
theorem jlay_c (p d : Nat) (J : JM) (hJ : J.n < 4611686018427387904) (at_ : Nat) (hat : at_ ≤ 1000000) (l : List Blk) (hW : ∀ b ∈ l, WB b) (hll : l.length ≤ 5000) (a : Option Addr) (c : Nat) (k : HdM) (hk : k.ok) (D : DS) {N : Nat} (h : D.wf N) (hN : N + l.length + 3 < 999990) :
    Ctr Tryz.prog 64 [.pointer (some ⟨p, 0, none⟩), .int .i64 (at_ : Int), .slice a l.length c, .agg (hc k).toArray] [bk p 91 (jrc d J), disk d D] (fun x => rdx a (l.length * 128) (flat l) x)
    (fun v M => v = .int .i64 (layM J at_ l k D).1 ∧ M = [bk p 91 (jrc d (layM J at_ l k D).2.1), disk d (layM J at_ l k D).2.2] ∧ (layM J at_ l k D).2.2.wf (N + l.length + 3)) := by
  refine Ctr.intro Tryz.func64 rfl Tryz.ntmps64 rfl fun x w hp => ?_
  refine wk ?_
  (apply CX.box; (· rfl); (· rfl); intro b4)
  (apply CX.box; (· rfl); (· rfl); intro b5)
  (refine CX.boxA (vs := hc k) ?_; intro b7)
  refine wk ?_
  refine CC.ownNil 66 1 ?_
  refine CC.give (bxA [] l) (fun _ => bxA_ok.2 fun j hj => by simp at hj) ?_
  refine CC.loop (X := Nat × Option Addr × Nat × List (Nat × Nat)) (fun s => [(15, .int .i64 (s.1 : Int)), (14, .int .i64 (l.length : Int)), (13, .slice a l.length c), (4, .pointer (some ⟨b4, 0, none⟩)), (5, .pointer (some ⟨b5, 0, none⟩)), (7, .pointer (some ⟨b7, 0, none⟩)), (9, .slice s.2.1 s.1 s.2.2.1)])
    (fun s => [own 66 1 s.2.1 s.1 s.2.2.1 (s.2.2.2.map (stepV b4 b5)), bxA s.2.2.2 l, bk p 91 (jrc d J), disk d D, bk b4 41 [.pointer (some ⟨p, 0, none⟩)], bk b5 3 [.int .i64 (at_ : Int)], bk b7 36 (hc k), exact x])
    (fun s => s.1 ≤ l.length ∧ s.2.2.2.length = s.1) (fun s => l.length - s.1) (0, none, 0, []) ⟨Nat.zero_le _, rfl⟩ ⟨rfl, rfl, rfl, rfl, rfl, rfl, rfl, trivial⟩ (by exact selA) ?_
  rintro ⟨i, a9, c9, bs⟩ ⟨hi, hbs⟩
  dsimp only at hi hbs ⊢
  by_cases h1 : i < l.length
  · obtain ⟨g, off, rfl⟩ := rdx_some hp (by omega)
    have hb := hW l[i] (List.getElem_mem h1)
    have eg : l.getD i [] = l[i] := by simp [List.getD, h1]
    refine wk ?_
    (refine CX.indexA (i) ?_ ?_; (· exact h1))
    (apply CX.ps; (· apply PS.loadG (vs := cb l[i]); (· rfl); (· rfl); (· exact CellsAt.row (by first | exact pickA | exact updA) hp (by omega) (fun y hy => (hW y hy).len) h1); (· exact hb.len)))
    refine CX.allocZ [.int .i64 0] ?_ (hv := rfl)
    intro q10
    refine CX.allocZ (cb zblk) ?_
    intro q11
    refine CX.storeA ?_
    (apply CX.storeAll; (· rfl); (· rfl); (· rfl); (· first | exact pickA | exact updA); (· exact hb.len); (· exact WB_z.len); (· exact one_cb _))
    refine wk ?_
    refine CX.merge3 (bxA (bs ++ [(q10, q11)]) l) (bx_snoc (t1 := 3) (t2 := 32) (i := i) hb hbs eg) ?_
    refine CX.buildSl (parts := [(0, _)]) (vs := [(0, stepV b4 b5 (q10, q11))]) (out := [stepV b4 b5 (q10, q11)]) rfl rfl (by decide) (by simp [fillL, Value.cells, setL, stepV]) fun bq => ?_
    refine CX.append (m := 1) (news := [stepV b4 b5 (q10, q11)]) rfl rfl rfl (by first | exact pickA | exact updA) (RdS.pick (b := bq) (o := 0) (by first | exact pickA | exact updA) rfl (one_all rfl) rfl) (by omega) (fun h => by cases h) ?_
    intro a3 c3
    refine wk ?_
    exact CQ.round (x := (i, a9, c9, bs)) (i + 1, a3, c3, bs ++ [(q10, q11)]) ⟨by dsimp only; omega, by simp [hbs]⟩ (by dsimp only; omega) ⟨eqI (by simp), rfl, rfl, rfl, rfl, rfl, rfl, trivial⟩ (by simp only [List.map_append, List.map_cons, List.map_nil]; exact selA)
  obtain rfl : i = l.length := by omega
  refine wk ?_
  refine CC.draw [(0, 0), (1, 1), (2, 0), (3, 0), (4, 1), (5, 0), (6, 0), (7, 1), (8, 0), (9, 0), (10, 1), (11, 0), (12, 2), (13, 2), (14, 0)] mixed rfl (by kernel_rfl) (by kernel_rfl) [bk p 91 (jrc d J), bk b4 41 [.pointer (some ⟨p, 0, none⟩)]] ?_
  refine hwk ?_
  refine CH.chain rfl fun K hK => ?_
  refine CX.buildSl (parts := [(0, _), (1, _), (2, _)]) (vs := [(0, flV d), (1, mkV b4 b7), (2, flV d)]) (out := [flV d, mkV b4 b7, flV d]) rfl rfl (by decide) (by simp [fillL, Value.cells, setL, flV, mkV]) fun bq => ?_
  (refine CX.nil ?_; refine CQ.thenK ?_; apply hK; (· exact selA); clear hK K)
  refine CH.chain rfl fun K hK => ?_
  refine CX.append (m := 3) (news := [flV d, mkV b4 b7, flV d]) rfl rfl rfl (by first | exact pickA | exact updA) (RdS.pick (b := bq) (o := 0) (by first | exact pickA | exact updA) rfl (one_all rfl) rfl) (by omega) (fun h => by cases h) ?_
  intro a10 c10
  (refine CX.nil ?_; refine CQ.thenK ?_; apply hK; (· exact selA); clear hK K)
  refine hwk ?_
  have hrun := jrun_c (fun D => [bk p 91 (jrc d J), disk d D]) ⟨p, d, J, rfl⟩ ((bs.map (stepV b4 b5) ++ [flV d, mkV b4 b7, flV d]).zip (layS J at_ l k)) a10 c10 (stPre p b4 b5 b7 at_ k bs l) stPre_mono (steps_ok p d b4 b5 b7 at_ J hJ k hk bs l hW hbs hat hll) D h (by simp [layS_len, hbs]; omega)
  have hzl : ((bs.map (stepV b4 b5) ++ [flV d, mkV b4 b7, flV d]).zip (layS J at_ l k)).length = l.length + 3 := by simp [layS_len, hbs]
  rw [hzl, List.map_fst_zip (by simp [layS_len, hbs]), List.map_snd_zip (by simp [layS_len, hbs])] at hrun
  have hlay : layM J at_ l k D = if (runM (layS J at_ l k) D).1 ≠ 0 then ((runM (layS J at_ l k) D).1, J, (runM (layS J at_ l k) D).2) else (0, ⟨J.n + 1, k⟩, (runM (layS J at_ l k) D).2) := rfl
  generalize runM (layS J at_ l k) D = r at *
  generalize layM J at_ l k D = y at *
  refine wk ?_
  refine CX.callA (hrun) ?_ (hpre := by exact fun z hz => ⟨by have := own_rdx (Pick.ok (show Pick (own 66 1 a10 (l.length + 3) c10 (bs.map (stepV b4 b5) ++ [flV d, mkV b4 b7, flV d])) _ _ from by first | exact pickA | exact updA) hz) (one_steps b4 b5 b7 d bs); rwa [Nat.mul_one] at this, rdx_bkok (t := 41) (by first | exact pickA | exact updA) rfl z hz, rdx_bkok (t := 3) (by first | exact pickA | exact updA) rfl z hz, rdx_bkok (t := 36) (by first | exact pickA | exact updA) rfl z hz, bxA_ok.1 (Pick.ok (show Pick (bxA bs l) _ _ from by first | exact pickA | exact updA) hz)⟩)
  rintro _ _ ⟨rfl, rfl, hwf⟩
  by_cases he : r.1 = 0
  rotate_left
  · rw [if_pos he] at hlay
    subst hlay
    refine wk ?_
    (apply CQ.end1; (· rfl); (· exact .tmp rfl))
    · exact ⟨rfl, rfl, by rw [Nat.add_assoc]; exact hwf⟩
    · exact selA
  rw [if_neg (by simp [he])] at hlay
  subst hlay
  rw [he]
  refine wk ?_
  refine CC.draw [(0, 1), (1, 1), (2, 1), (7, 1), (3, 0), (4, 0), (5, 2), (6, 0), (8, 0), (9, 0), (10, 2), (11, 0), (12, 0), (13, 2)] mixed rfl (by kernel_rfl) (by kernel_rfl) [bk b4 41 [.pointer (some ⟨p, 0, none⟩)], bk b7 36 (hc k)] ?_
  refine hwk ?_
  (apply CH.read; (· rfl); (· apply PS.loadG (vs := hc k); (· rfl); (· rfl); (· exact CellsAt.all (by first | exact pickA | exact updA)); (· rfl)); (· exact selA))
  refine hwk ?_
  refine CH.chain rfl fun K hK => ?_
  refine CX.psA ?_
  (refine CX.nil ?_; refine CQ.thenK ?_; apply hK; (· exact selA); clear hK K)
  refine hwk ?_
  refine CH.chain rfl fun K hK => ?_
  refine CX.storeA ?_
  (refine CX.nil ?_; refine CQ.thenK ?_; apply hK; (· exact selA); clear hK K)
  refine hwk ?_
  refine CH.chain rfl fun K hK => ?_
  have e5 : setL ((jrc d J).set (0 + 1) (.int .u64 ((J.n : Int) + 1))) (0 + 2) (Value.agg (hc k).toArray).cells.toList = jrc d ⟨J.n + 1, k⟩ := by
    simp [jrc, setL, hc, Value.cells]
  refine CX.storeC (cs := (jrc d J).set (0 + 1) (.int .u64 ((J.n : Int) + 1))) (bt := 91) rfl rfl rfl rfl (one_all rfl) (by first | exact pickA | exact updA) (by simp [jrc, hc, Value.cells]) ?_
  rw [e5]
  (refine CX.nil ?_; refine CQ.thenK ?_; apply hK; (· exact selA); clear hK K)
  refine hwk ?_
  refine wk ?_
  (apply CQ.end1; (· rfl); (· exact .tmp rfl))
  · exact ⟨rfl, rfl, by rw [Nat.add_assoc]; exact hwf⟩
  · exact selA
end Go.Proofs.YtlckhaodecdbbaaGreat
/-! What the journal reads (read), in the program. -/
namespace Go.Cx
/-- Bytes of slices, somewhere. -/
@[irreducible] def valS (l : List SlB) : Assn where
  ok h := ∀ r ∈ l, r.ok h
  mono := fun _ _ k e r hr => (e r hr).mono k
theorem valS_ok {l : List SlB} {h : PH} : (valS l).ok h ↔ ∀ r ∈ l, r.ok h := by
  unfold valS; exact Iff.rfl
def bsAt (a : Option Addr) (l : List SlB) (h : PH) : Prop := rdx a l.length (rows SlB.cells l) h ∧ ∀ r ∈ l, r.ok h
theorem bsAt_mono {a : Option Addr} {l : List SlB} {x y : PH} (h : bsAt a l x) (k : Le x y) : bsAt a l y := ⟨rdx_mono h.1 k, fun r hr => (h.2 r hr).mono k⟩
@[irreducible] def bsA (a : Option Addr) (l : List SlB) : Assn where
  ok h := bsAt a l h
  mono := fun _ _ k e => bsAt_mono e k
theorem bsA_ok {a : Option Addr} {l : List SlB} {h : PH} : (bsA a l).ok h ↔ bsAt a l h := by
  unfold bsA; exact Iff.rfl
theorem one_sl (l : List SlB) : ∀ u ∈ rows SlB.cells l, u.oneCell' = true := fun u hu => by
  simp only [rows, List.mem_flatten, List.mem_map] at hu
  obtain ⟨_, ⟨r, _, rfl⟩, hu⟩ := hu
  simp only [SlB.cells, List.mem_singleton] at hu
  subst hu; rfl
theorem own_bs {e c : Nat} {a : Option Addr} {l : List SlB} (h : PH) (s : (own e 1 a l.length c (rows SlB.cells l)).ok h) (t : (valS l).ok h) : (bsA a l).ok h := bsA_ok.2 ⟨by have := own_rdx s (one_sl l); rwa [Nat.mul_one] at this, valS_ok.1 t⟩
theorem bs_nil (k : PH) : (bsA none []).ok k := bsA_ok.2 ⟨.inl rfl, fun _ h => by cases h⟩
theorem valS_snoc {e c : Nat} {a : Option Addr} {b : Blk} {l : List SlB} (h : PH) (s : (valS l).ok h) (t : (own e 1 a b.length c (cb b)).ok h) : (valS (l ++ [⟨a, b, c⟩])).ok h := valS_ok.2 fun r hr => by
  rcases List.mem_append.1 hr with hr | hr
  · exact valS_ok.1 s r hr
  · obtain rfl := List.mem_singleton.1 hr
    exact own_SlB t
theorem rdx_cut {g o cap len l : Nat} {B : Blk} {y : PH} (h : rdx (some ⟨g, o, none⟩) len (cb B) y) (hl : len = B.length) (hlen : l ≤ len) (hc : len ≤ cap) : rdx (some ⟨g, if cap = l then o else o + l * 1, none⟩) (len - l) (cb (B.drop l)) y := by
  by_cases hcl : cap = l
  · exact .inl (by omega)
  · rw [if_neg hcl, Nat.mul_one]
    have := rdx_part rfl h hl l (len - l) (by omega)
    rwa [List.take_of_length_le (by simp; omega)] at this
theorem rdx_cut2 {g o cap len l m : Nat} {B : Blk} {y : PH} (h : rdx (some ⟨g, o, none⟩) len (cb B) y) (hl : len = B.length) (hlm : l ≤ m) (hm : m ≤ len) (hc : len ≤ cap) : rdx (cutAt (some ⟨g, o, none⟩) l cap 1) (m - l) (cb ((B.drop l).take (m - l))) y := by
  unfold cutAt
  by_cases hcl : cap = l
  · exact .inl (by omega)
  · rw [if_neg hcl]
    simp only [Option.map_some, addr_add, Nat.mul_one]
    exact rdx_part rfl h hl l (m - l) (by omega)
theorem own_rd {e n c : Nat} {a : Option Addr} {B : Blk} (h : PH) (s : (own e 1 a n c (cb B)).ok h) : (rd a n (cb B)).ok h := rd_ok.2 (by have := own_rdx s (one_cb B); rwa [Nat.mul_one] at this)
theorem upB_ge (n : Nat) : n ≤ upB n := by unfold upB; omega
theorem upB_le {n m : Nat} (h : n ≤ m) (hm : m % 128 = 0) : upB n ≤ m := by unfold upB; omega
end Go.Cx
namespace Go.Proofs.YtlckhaodecdbbaaGreat
open Go.Cx
attribute [local irreducible] Go.Cx.CX Go.Cx.CC Go.Cx.CQ Go.Cx.PS Go.Cx.Ctr Go.Cx.CH
set_option maxRecDepth 10000
theorem read1_c (c : UInt8) : Ctr Tryz.prog 77 [.int .u8 (c.toNat : Int)] [] (fun _ => True) (fun v M => v = .bool (decide (c ≠ 0)) ∧ M = []) := by
  refine Ctr.intro Tryz.func77 rfl Tryz.ntmps77 rfl fun x w hp => ?_
  have e : decide (c ≠ 0) = decide ((c.toNat : Int) ≠ 0) := by
    refine decide_eq_decide.2 ⟨fun h => u8_ne h, fun h hc => h (u8_int hc)⟩
  rw [e]
  refine wk ?_
  ((apply CQ.end1; (· rfl); (· exact .tmp rfl)); (· exact ⟨rfl, rfl⟩); (· exact selA))
theorem idxB_c (C : Blk) (hl : C.length ≤ 9223372036854775806) (a : Option Addr) (cap : Nat) : Ctr Tryz.prog 98 [.slice a C.length cap, .func (.func 77) #[] #[]] [] (fun x => rdx a C.length (cb C) x) (fun v M => ∃ z : Int, v = .int .i64 z ∧ (0 ≤ z ↔ ∃ c ∈ C, c ≠ 0) ∧ M = []) := by
  refine Ctr.intro Tryz.func98 rfl Tryz.ntmps98 rfl fun x w hp => ?_
  refine wk ?_
  refine CC.loop (X := Nat) (fun i => [(8, .int .i64 (i : Int)), (7, .int .i64 (C.length : Int)), (0, .slice a C.length cap), (1, .func (.func 77) #[] #[])])
    (fun i => [exact x]) (fun i => i ≤ C.length ∧ ∀ j (hj : j < C.length), j < i → C[j] = 0) (fun i => C.length - i) 0 ⟨Nat.zero_le _, fun j h => by omega⟩ ⟨rfl, rfl, rfl, rfl, trivial⟩ (by exact selA) ?_
  rintro i ⟨hi, hpre⟩
  by_cases h1 : i < C.length
  · obtain ⟨g, off, rfl⟩ := rdx_some hp (by omega)
    by_cases h2 : C[i] = 0
    · refine wk ?_
      (refine CX.indexA (i) ?_ ?_; (· exact h1))
      (refine CX.loadA _ (CellAt.rd (j := i) (by first | exact pickA | exact updA) hp rfl h1) ?_)
      refine CX.callF (read1_c C[i]) ?_
      rw [decide_eq_false (fun h => h h2)]
      rintro _ _ ⟨rfl, rfl⟩
      refine wk ?_
      exact CQ.round (i + 1) ⟨by omega, fun j hj h => by
        by_cases e : j < i
        · exact hpre j hj e
        · obtain rfl : j = i := by omega
          exact h2⟩ (by omega) ⟨eqI (by omega), rfl, rfl, rfl, trivial⟩ (by exact selA)
    · refine wk ?_
      (refine CX.indexA (i) ?_ ?_; (· exact h1))
      (refine CX.loadA _ (CellAt.rd (j := i) (by first | exact pickA | exact updA) hp rfl h1) ?_)
      refine CX.callF (read1_c C[i]) ?_
      rw [decide_eq_true h2]
      rintro _ _ ⟨rfl, rfl⟩
      refine wk ?_
      (apply CQ.end1; (· rfl); (· exact .tmp rfl))
      · exact ⟨_, rfl, ⟨fun _ => ⟨C[i], List.getElem_mem h1, h2⟩, fun _ => by omega⟩, rfl⟩
      · exact selA
  · obtain rfl : i = C.length := by omega
    refine wk ?_
    (apply CQ.end1; (· rfl); (· exact .tmp rfl))
    · exact ⟨_, rfl, ⟨fun h => by omega, fun ⟨r, hr, hn⟩ => by
        obtain ⟨j, hj, rfl⟩ := List.getElem_of_mem hr
        exact absurd (hpre j hj hj) hn⟩, rfl⟩
    · exact selA
theorem conB_c (C : Blk) (hl : C.length ≤ 9223372036854775806) (a : Option Addr) (cap : Nat) : Ctr Tryz.prog 76 [.slice a C.length cap, .func (.func 77) #[] #[]] [] (fun x => rdx a C.length (cb C) x) (fun v M => v = .bool (decide (∃ c ∈ C, c ≠ 0)) ∧ M = []) := by
  refine Ctr.intro Tryz.func76 rfl Tryz.ntmps76 rfl fun x w hp => ?_
  refine wk ?_
  refine CX.callA (idxB_c C hl a cap) ?_ (hpre := by exact rdx_ex (by first | exact pickA | exact updA) hp)
  rintro _ _ ⟨z, rfl, hz, rfl⟩
  rw [show decide (∃ c ∈ C, c ≠ 0) = decide (0 ≤ z) from decide_eq_decide.2 hz.symm]
  refine wk ?_
  ((apply CQ.end1; (· rfl); (· exact .tmp rfl)); (· exact ⟨rfl, rfl⟩); (· exact selA))
end Go.Proofs.YtlckhaodecdbbaaGreat
/-! What the journal reads (read), in the program. -/
namespace Go.Cx
theorem rdAll_err {D : DS} {f i n : Nat} {acc : Blk} (h : (D.read ((f : Int) + (i : Int))).2 ≠ 0) : rdAll D f i (n + 1) acc = ([], (D.read ((f : Int) + (i : Int))).2) := by rw [rdAll, if_pos h]
theorem rdAll_go {D : DS} {f i n : Nat} {acc : Blk} (h : (D.read ((f : Int) + (i : Int))).2 = 0) : rdAll D f i (n + 1) acc = rdAll D f (i + 1) n (acc ++ (D.read ((f : Int) + (i : Int))).1) := by rw [rdAll, if_neg (by simp [h])]
/-- What read gives. -/
def ReadP (p d tj : Nat) (dk : DS → Assn) (J : JM) (D : DS) (v : Value) (M : List Assn) : Prop :=
  ∃ a c l, l.map SlB.b = (readM J D).1 ∧ v = .tuple #[.slice a l.length c, .int .i64 (readM J D).2] ∧ M = [bk p tj (jrc d J), dk D, bsA a l] ∧ (a = none → l.length = 0 ∧ c = 0) ∧ l.length ≤ c
end Go.Cx
namespace Go.Proofs.YtlckhaodecdbbaaGreat
open Go.Cx
attribute [local irreducible] Go.Cx.CX Go.Cx.CC Go.Cx.CQ Go.Cx.PS Go.Cx.Ctr Go.Cx.CH
set_option maxRecDepth 10000
def planR : Pl := .op 0 0 (.op 1 0 (.op 2 0 (.op 3 1 (.op 4 0 (.op 5 0 (.op 6 0 (.op 7 0 (.op 8 0 (.op 9 1 (.op 11 0 (.fork 10 17
  (.op 12 0 (.fork 13 17 (.op 14 0 (.op 15 0 (.op 16 0 (.op 17 2 (.op 18 2 (.op 19 0 .nil)))))) (.op 13 2 (.op 14 0 (.op 15 0 (.op 16 0 (.op 18 2 (.op 19 0 .nil))))))))
  (.op 10 2 (.op 12 0 (.op 13 2 (.op 14 0 (.op 15 0 (.op 16 0 (.op 18 2 (.op 19 0 .nil)))))))))))))))))))
set_option maxHeartbeats 1000000 in
theorem jread_c (p d : Nat) (J : JM) (hb : J.h.bank < 256) (hbt : J.h.batches < 4294967296) (hbk : J.h.blocks < 4294967296) (D : DS) {N : Nat} (h : D.wf N) (hN : N < 1000000) : Ctr Tryz.prog 58 [.pointer (some ⟨p, 0, none⟩)] [bk p 91 (jrc d J), disk d D] (fun _ => True)
    (ReadP p d 91 (disk d) J D) := by
  unfold ReadP
  have h2 := h.hi
  have hbank : bankM D ≤ 2048 := by unfold bankM; omega
  have hmul : J.h.bank * bankM D ≤ 256 * 2048 := Nat.mul_le_mul (by omega) hbank
  have hfst : firstM D J.h.bank ≤ 524290 := by unfold firstM; omega
  refine Ctr.intro Tryz.func58 rfl Tryz.ntmps58 rfl fun x w hp => ?_
  refine wk ?_
  refine CC.draw [(0, 0), (1, 0), (2, 0), (3, 0), (4, 1), (5, 0), (6, 0), (7, 2), (8, 0)] mixed rfl (by kernel_rfl) (by kernel_rfl) [bk p 91 (jrc d J)] ?_
  refine hwk ?_
  refine CH.chain rfl fun K hK => ?_
  refine CX.callA (jbank_c p d J D h) ?_
  rintro _ _ ⟨rfl, rfl⟩
  (refine CX.nil ?_; refine CQ.thenK ?_; apply hK; (· exact selA); clear hK K)
  by_cases h0 : bankM D < J.h.blocks
  · rw [show readM J D = ([], 5) by unfold readM; rw [if_pos h0]]
    refine hwk ?_
    refine wk ?_
    refine CQ.give (bsA none []) bs_nil ?_
    (apply CQ.end2; (· rfl); (· exact .tmp rfl); (· exact .tmp rfl))
    · exact ⟨none, 0, [], rfl, rfl, rfl, fun _ => ⟨rfl, rfl⟩, Nat.le_refl _⟩
    · exact selA
  have hrd : readM J D = if (rdAll D (firstM D J.h.bank) 0 J.h.blocks []).2 ≠ 0 then ([], (rdAll D (firstM D J.h.bank) 0 J.h.blocks []).2) else parseM J.h.batches [] (rdAll D (firstM D J.h.bank) 0 J.h.blocks []).1 := by
    unfold readM; rw [if_neg h0]
  refine hwk ?_
  refine wk ?_
  refine CC.ownNil 5 1 ?_
  refine CC.loop (X := Nat × Option Addr × Nat × Blk) (fun s => [(28, .int .i64 (s.1 : Int)), (27, .int .i64 (J.h.blocks : Int)), (0, .pointer (some ⟨p, 0, none⟩)), (4, .slice s.2.1 s.2.2.2.length s.2.2.1)])
    (fun s => [own 5 1 s.2.1 s.2.2.2.length s.2.2.1 (cb s.2.2.2), bk p 91 (jrc d J), disk d D, exact x])
    (fun s => s.1 ≤ J.h.blocks ∧ s.2.2.2.length = s.1 * 128 ∧ rdAll D (firstM D J.h.bank) 0 J.h.blocks [] = rdAll D (firstM D J.h.bank) s.1 (J.h.blocks - s.1) s.2.2.2) (fun s => J.h.blocks - s.1) (0, none, 0, []) ⟨Nat.zero_le _, rfl, rfl⟩ ⟨rfl, rfl, rfl, rfl, trivial⟩ (by exact selA) ?_
  rintro ⟨i, a4, c4, acc⟩ ⟨hi, hacc, hall⟩
  dsimp only at hi hacc hall ⊢
  by_cases h1 : i < J.h.blocks
  · rw [show J.h.blocks - i = (J.h.blocks - (i + 1)) + 1 by omega] at hall
    have hw := read_WB h ((firstM D J.h.bank : Int) + (i : Int))
    have herr := fun e => rdAll_err (D := D) (f := firstM D J.h.bank) (i := i) (n := J.h.blocks - (i + 1)) (acc := acc) e
    have hgo := fun e => rdAll_go (D := D) (f := firstM D J.h.bank) (i := i) (n := J.h.blocks - (i + 1)) (acc := acc) e
    have hread := read_c d D ((firstM D J.h.bank : Int) + (i : Int)) h hN
    have hfirst := jfirst_c p d J D J.h.bank hb h
    generalize D.read ((firstM D J.h.bank : Int) + (i : Int)) = u at *
    refine wk ?_
    refine CC.join (X := Nat) (fun b => [(28, .int .i64 (i : Int)), (27, .int .i64 (J.h.blocks : Int)), (0, .pointer (some ⟨p, 0, none⟩)), (4, .slice a4 acc.length c4), (6, .pointer (some ⟨b, 0, none⟩)), (7, .int .i64 u.2)])
      (fun b => [own 5 1 a4 acc.length c4 (cb acc), bk p 91 (jrc d J), disk d D, bk b 32 (cb u.1), exact x]) (fun _ => True) ?_ ?_
    · refine CC.drawP planR (fun _ => false) mixed rfl (by kernel_rfl) (by kernel_rfl) [bk p 91 (jrc d J)] ?_
      unfold planR
      refine hqk ?_
      refine CP.fork ?_ ?_
      · intro K hK
        refine CX.callA (hfirst) ?_
        rintro _ _ ⟨rfl, rfl⟩
        (refine CX.nil ?_; refine CQ.thenK ?_; apply hK; (· exact selA); clear hK K)
        refine hqk ?_
        refine CP.fork ?_ ?_
        · intro K hK
          refine CX.callA (hread) ?_
          rintro _ _ ⟨rfl, rfl⟩
          (refine CX.nil ?_; refine CQ.thenK ?_; apply hK; (· exact selA); clear hK K)
          refine hqk ?_
          refine CP.act ?_
          intro K hK
          refine CX.allocZ (cb zblk) ?_
          intro q8
          (refine CX.nil ?_; refine CQ.thenK ?_; apply hK; (· exact selA); clear hK K)
          refine CP.act ?_
          intro K hK
          (apply CX.storeAll; (· rfl); (· rfl); (· rfl); (· first | exact pickA | exact updA); (· exact hw.len); (· exact WB_z.len); (· exact one_cb _))
          (refine CX.nil ?_; refine CQ.thenK ?_; apply hK; (· exact selA); clear hK K)
          refine hqk ?_
          exact CQ.joined q8 trivial ⟨rfl, rfl, rfl, rfl, rfl, rfl, trivial⟩ (by exact selA)
        · intro K hK
          refine CX.allocZ (cb zblk) ?_
          intro q8
          (refine CX.nil ?_; refine CQ.thenK ?_; apply hK; (· exact selA); clear hK K)
          refine CP.act ?_
          intro K hK
          refine CX.callA (hread) ?_
          rintro _ _ ⟨rfl, rfl⟩
          (refine CX.nil ?_; refine CQ.thenK ?_; apply hK; (· exact selA); clear hK K)
          refine hqk ?_
          refine CP.act ?_
          intro K hK
          (apply CX.storeAll; (· rfl); (· rfl); (· rfl); (· first | exact pickA | exact updA); (· exact hw.len); (· exact WB_z.len); (· exact one_cb _))
          (refine CX.nil ?_; refine CQ.thenK ?_; apply hK; (· exact selA); clear hK K)
          refine hqk ?_
          exact CQ.joined q8 trivial ⟨rfl, rfl, rfl, rfl, rfl, rfl, trivial⟩ (by exact selA)
      · intro K hK
        refine CX.allocZ (cb zblk) ?_
        intro q8
        (refine CX.nil ?_; refine CQ.thenK ?_; apply hK; (· exact selA); clear hK K)
        refine CP.act ?_
        intro K hK
        refine CX.callA (hfirst) ?_
        rintro _ _ ⟨rfl, rfl⟩
        (refine CX.nil ?_; refine CQ.thenK ?_; apply hK; (· exact selA); clear hK K)
        refine hqk ?_
        refine CP.act ?_
        intro K hK
        refine CX.callA (hread) ?_
        rintro _ _ ⟨rfl, rfl⟩
        (refine CX.nil ?_; refine CQ.thenK ?_; apply hK; (· exact selA); clear hK K)
        refine hqk ?_
        refine CP.act ?_
        intro K hK
        (apply CX.storeAll; (· rfl); (· rfl); (· rfl); (· first | exact pickA | exact updA); (· exact hw.len); (· exact WB_z.len); (· exact one_cb _))
        (refine CX.nil ?_; refine CQ.thenK ?_; apply hK; (· exact selA); clear hK K)
        refine hqk ?_
        exact CQ.joined q8 trivial ⟨rfl, rfl, rfl, rfl, rfl, rfl, trivial⟩ (by exact selA)
    · intro q8 _
      by_cases he : u.2 = 0
      rotate_left
      · rw [herr he] at hall
        rw [hall] at hrd
        rw [if_pos he] at hrd
        rw [hrd]
        refine wk ?_
        refine CQ.give (bsA none []) bs_nil ?_
        (apply CQ.end2; (· rfl); (· exact .tmp rfl); (· exact .tmp rfl))
        · exact ⟨none, 0, [], rfl, rfl, rfl, fun _ => ⟨rfl, rfl⟩, Nat.le_refl _⟩
        · exact selA
      rw [hgo he] at hall
      rw [he]
      refine wk ?_
      refine CX.ps (PS.sliceArr (l := 0) (h := 128) rfl rfl rfl rfl (.inl ⟨rfl, rfl⟩) (.inl ⟨rfl, rfl⟩) (by omega) (by omega)) ?_
      rw [cutAt_zero]
      refine CX.append (m := 128 - 0) (news := cb u.1) rfl rfl rfl (by first | exact pickA | exact updA) (RdS.pick (b := q8) (o := 0) (by first | exact pickA | exact updA) hw.len (one_cb _) (by rw [List.drop_zero, List.take_of_length_le (by rw [hw.len]; omega)])) (by omega) (fun h => by cases h) ?_
      intro a5 c5
      rw [← cb_append]
      have hul : u.1.length = 128 := hw
      refine wk ?_
      exact CQ.round (x := (i, a4, c4, acc)) (i + 1, a5, c5, acc ++ u.1) ⟨by dsimp only; omega, by simp [hul]; omega, hall⟩ (by dsimp only; omega) ⟨eqI (by simp), rfl, rfl, slE (by simp [hul]), trivial⟩ (by simp only [List.length_append, hul]; exact selA)
  obtain rfl : i = J.h.blocks := by omega
  rw [Nat.sub_self, rdAll] at hall
  rw [hall, if_neg (by simp)] at hrd
  dsimp only at hrd
  refine CC.fact (own_none (e := 5) (sz := 1) (by first | exact pickA | exact updA)) ?_
  rintro ⟨-, hc4, -⟩
  refine wk ?_
  refine CC.turn (rd a4 acc.length (cb acc)) (own_rd (e := 5) (c := c4)) ?_
  refine CC.ownNil 50 1 ?_
  refine CC.give (valS []) (fun _ => valS_ok.2 fun _ h => by cases h) ?_
  refine CC.loop (X := Nat × Option Addr × Nat × Blk × Option Addr × Nat × List SlB) (fun s => [(60, .int .u32 (s.1 : Int)), (59, .int .u32 (J.h.batches : Int)), (0, .pointer (some ⟨p, 0, none⟩)), (4, .slice s.2.1 s.2.2.2.1.length s.2.2.1), (8, .slice s.2.2.2.2.1 s.2.2.2.2.2.2.length s.2.2.2.2.2.1)])
    (fun s => [rd s.2.1 s.2.2.2.1.length (cb s.2.2.2.1), own 50 1 s.2.2.2.2.1 s.2.2.2.2.2.2.length s.2.2.2.2.2.1 (rows SlB.cells s.2.2.2.2.2.2), valS s.2.2.2.2.2.2, bk p 91 (jrc d J), disk d D, exact x])
    (fun s => s.1 ≤ J.h.batches ∧ s.2.2.2.1.length ≤ s.2.2.1 ∧ s.2.2.2.1.length % 128 = 0 ∧ s.2.2.2.1.length ≤ 1048576 ∧ readM J D = parseM (J.h.batches - s.1) (s.2.2.2.2.2.2.map SlB.b) s.2.2.2.1 ∧ s.2.2.2.2.2.2.length ≤ s.1) (fun s => J.h.batches - s.1) (0, a4, c4, acc, none, 0, [])
    ⟨Nat.zero_le _, hc4, by dsimp only; omega, by dsimp only; omega, hrd, Nat.le_refl _⟩ ⟨rfl, rfl, rfl, rfl, rfl, trivial⟩ (by exact selA) ?_
  rintro ⟨j, av, cv, rem, a8, c8, l⟩ ⟨hj, hcv, hm, hrl, hpm, hlj⟩
  dsimp only at hj hcv hm hrl hpm hlj ⊢
  by_cases h1 : j < J.h.batches
  · rw [show J.h.batches - j = (J.h.batches - (j + 1)) + 1 by omega, parseM] at hpm
    have hgr := getrow_c rem (by omega) av cv hcv 0 1048576 (by decide) (by decide)
    unfold GotRow at hgr
    by_cases he : (Cx.rowAt rem 0 1048576).2.2 = 0
    rotate_left
    · rw [if_pos he] at hpm
      rw [hpm]
      generalize Cx.rowAt rem 0 1048576 = r at *
      refine wk ?_
      refine CX.callA (hgr) ?_ (hpre := by exact rdx_rd (by first | exact pickA | exact updA))
      rintro _ _ ⟨a9, c9, rfl, rfl⟩
      refine wk ?_
      refine CQ.give (bsA none []) bs_nil ?_
      (apply CQ.end2; (· rfl); (· exact .tmp rfl); (· exact .tmp rfl))
      · exact ⟨none, 0, [], rfl, rfl, rfl, fun _ => ⟨rfl, rfl⟩, Nat.le_refl _⟩
      · exact selA
    obtain ⟨-, hnx, hnl, hr1, -⟩ := rowAt_inv (b := rem) (r := (Cx.rowAt rem 0 1048576).1) (at_ := 0) (most := 1048576) (nx := (Cx.rowAt rem 0 1048576).2.1) (by rw [← he])
    rw [if_neg (by simp [he])] at hpm
    generalize Cx.rowAt rem 0 1048576 = r at *
    have hge := upB_ge r.2.1
    have hle := upB_le hnl hm
    have hCl : ((rem.drop r.2.1).take (upB r.2.1 - r.2.1)).length = upB r.2.1 - r.2.1 := by simp; omega
    have hcon := conB_c ((rem.drop r.2.1).take (upB r.2.1 - r.2.1)) (by omega) (cutAt av r.2.1 cv 1) (cv - r.2.1)
    rw [hCl] at hcon
    have hq : IntKind.i64.wrap (((r.2.1 : Int) + 128 - 1).tdiv 128) = (((r.2.1 + 127) / 128 : Nat) : Int) := by
      rw [tdiv_nn (by omega), wr_i64 (by omega) (by omega)]; omega
    have hmu : IntKind.i64.wrap ((((r.2.1 + 127) / 128 : Nat) : Int) * 128) = (upB r.2.1 : Int) := by
      unfold upB; rw [wr_i64 (by omega) (by omega)]; simp
    rw [he] at hgr
    refine CC.fact (p := ∃ g o, av = some ⟨g, o, none⟩) (fun y hy => rdx_some (rd_ok.1 (Pick.ok (show Pick (rd av rem.length (cb rem)) _ _ from by first | exact pickA | exact updA) hy)) (by omega)) ?_
    rintro ⟨g, o, rfl⟩
    have hpre : ∀ y, rdx (some ⟨g, o, none⟩) rem.length (cb rem) y → rdx (cutAt (some ⟨g, o, none⟩) r.2.1 cv 1) (upB r.2.1 - r.2.1) (cb ((rem.drop r.2.1).take (upB r.2.1 - r.2.1))) y := fun y hy => rdx_cut2 hy rfl hge hle hcv
    by_cases hz : ∃ c ∈ (rem.drop r.2.1).take (upB r.2.1 - r.2.1), c ≠ 0
    · rw [if_pos hz] at hpm
      rw [hpm]
      rw [decide_eq_true hz] at hcon
      refine wk ?_
      refine CX.callA (hgr) ?_ (hpre := by exact rdx_rd (by first | exact pickA | exact updA))
      rintro _ _ ⟨a9, c9, rfl, rfl⟩
      refine wk ?_
      refine CX.ps (PS.quo rfl rfl rfl (by decide) hq) ?_
      refine CX.ps (PS.mul rfl rfl rfl hmu) ?_
      refine wk ?_
      refine CX.ps (PS.slice (l := r.2.1) (h := upB r.2.1) rfl rfl rfl rfl (.inr ⟨_, rfl⟩) (.inr ⟨_, rfl⟩) hge (by omega)) ?_
      refine CX.callA (hcon) ?_ (hpre := by exact fun y hy => hpre y (rdx_rd (by first | exact pickA | exact updA) y hy))
      rintro _ _ ⟨rfl, rfl⟩
      refine wk ?_
      refine CQ.give (bsA none []) bs_nil ?_
      (apply CQ.end2; (· rfl); (· exact .tmp rfl); (· exact .tmp rfl))
      · exact ⟨none, 0, [], rfl, rfl, rfl, fun _ => ⟨rfl, rfl⟩, Nat.le_refl _⟩
      · exact selA
    rw [if_neg hz] at hpm
    rw [decide_eq_false hz] at hcon
    refine wk ?_
    refine CX.callA (hgr) ?_ (hpre := by exact rdx_rd (by first | exact pickA | exact updA))
    rintro _ _ ⟨a9, c9, rfl, rfl⟩
    refine wk ?_
    refine CX.ps (PS.quo rfl rfl rfl (by decide) hq) ?_
    refine CX.ps (PS.mul rfl rfl rfl hmu) ?_
    refine wk ?_
    refine CX.ps (PS.slice (l := r.2.1) (h := upB r.2.1) rfl rfl rfl rfl (.inr ⟨_, rfl⟩) (.inr ⟨_, rfl⟩) hge (by omega)) ?_
    refine CX.callA (hcon) ?_ (hpre := by exact fun y hy => hpre y (rdx_rd (by first | exact pickA | exact updA) y hy))
    rintro _ _ ⟨rfl, rfl⟩
    refine wk ?_
    refine CC.draw [(0, 0), (1, 0), (4, 0), (5, 0), (6, 0), (2, 3), (3, 3), (7, 0), (8, 0)] mixed rfl (by kernel_rfl) (by kernel_rfl) [] ?_
    refine hwk ?_
    refine CH.pure rfl (PS.sliceLo (l := upB r.2.1) rfl rfl rfl rfl hle hcv) ?_
    refine CH.tail rfl rfl fun K hK => ?_
    refine CX.buildSl (parts := [(0, _)]) (vs := [(0, .slice a9 r.1.length c9)]) (out := [.slice a9 r.1.length c9]) rfl rfl (by decide) (by simp [fillL, Value.cells, setL]) fun bq => ?_
    (refine CX.nil ?_; refine CQ.thenK ?_; apply hK; clear hK K)
    refine CH.tail rfl rfl fun K hK => ?_
    refine CX.append (m := 1) (news := [.slice a9 r.1.length c9]) rfl rfl rfl (by first | exact pickA | exact updA) (RdS.pick (b := bq) (o := 0) (by first | exact pickA | exact updA) rfl (one_all rfl) rfl) (by omega) (fun h => by cases h) ?_
    intro a10 c10
    refine CX.merge (valS (l ++ [⟨a9, r.1, c9⟩])) valS_snoc ?_
    (refine CX.nil ?_; refine CQ.thenK ?_; apply hK; clear hK K)
    refine hwk ?_
    refine wk ?_
    refine CQ.turn (rd (some ⟨g, if cv = upB r.2.1 then o else o + upB r.2.1 * 1, none⟩) (rem.length - upB r.2.1) (cb (rem.drop (upB r.2.1)))) (fun y s => rd_ok.2 (rdx_cut (rd_ok.1 s) rfl hle hcv)) ?_
    exact CQ.round (x := (j, some ⟨g, o, none⟩, cv, rem, a8, c8, l)) (j + 1, some ⟨g, if cv = upB r.2.1 then o else o + upB r.2.1 * 1, none⟩, cv - upB r.2.1, rem.drop (upB r.2.1), a10, c10, l ++ [⟨a9, r.1, c9⟩]) ⟨by dsimp only; omega, by simp; omega, by simp [upB] at hle ⊢; omega, by simp; omega, by dsimp only; rw [List.map_append]; exact hpm, by simp; omega⟩ (by dsimp only; omega) ⟨eqI (by simp), rfl, rfl, slE (by simp), slE (by simp), trivial⟩ (by simp only [List.length_append, List.length_drop, rows_append]; exact selA)
  obtain rfl : j = J.h.batches := by omega
  rw [Nat.sub_self, parseM] at hpm
  by_cases h3 : 0 < rem.length
  · rw [if_pos h3] at hpm
    rw [hpm]
    refine wk ?_
    refine CQ.give (bsA none []) bs_nil ?_
    (apply CQ.end2; (· rfl); (· exact .tmp rfl); (· exact .tmp rfl))
    · exact ⟨none, 0, [], rfl, rfl, rfl, fun _ => ⟨rfl, rfl⟩, Nat.le_refl _⟩
    · exact selA
  · rw [if_neg h3] at hpm
    rw [hpm]
    refine wk ?_
    refine CQ.fact (own_none (e := 50) (sz := 1) (by first | exact pickA | exact updA)) ?_
    rintro ⟨hn8, hc8, -⟩
    refine CQ.merge (bsA a8 l) own_bs ?_
    (apply CQ.end2; (· rfl); (· exact .tmp rfl); (· exact .tmp rfl))
    · exact ⟨a8, c8, l, rfl, rfl, rfl, hn8, hc8⟩
    · exact selA
end Go.Proofs.YtlckhaodecdbbaaGreat
/-! What the journal's statements lean on (ref 00 Copy, ref 01 Row, ref 07 Same), in the program. -/
namespace Go.Cx
theorem bk_rdx {b t o len : Nat} {cs vs : List Value} {L M : List Assn} (p : Pick (bk b t cs) L M) (hc : (cs.drop o).take vs.length = vs) : ∀ y, Sep L y → rdx (some ⟨b, o, none⟩) len vs y := fun y hy => by
  obtain ⟨cs', t', fr, e, h⟩ := CellsAt.pick p hc y hy
  exact .inr ⟨b, o, _, _, _, rfl, e, h⟩
theorem sl_len (l : List SlB) : ∀ y ∈ l, (SlB.cells y).length = 1 := fun _ _ => rfl
theorem bsAt_some {a : Option Addr} {l : List SlB} {x : PH} (h : bsAt a l x) (h0 : 0 < l.length) : ∃ g off, a = some ⟨g, off, none⟩ := rdx_some h.1 (by omega)
theorem bsAt.cell {L L' : List Assn} {x : PH} {g off i : Nat} {l : List SlB} (h : bsAt (some ⟨g, off, none⟩) l x) (p : Pick (exact x) L L') (hi : i < l.length) : CellAt L g (off + i * 1) (.slice (l[i]).a (l[i]).b.length (l[i]).c) :=
  fun y hy => by
    obtain ⟨cs, t, fr, e, hc⟩ := CellsAt.row p h.1 (by omega) (sl_len l) hi y hy
    exact ⟨cs, t, fr, e, by simpa using hc 0 _ rfl⟩
theorem bsA_cell {L L' : List Assn} {g off i : Nat} {l : List SlB} (p : Pick (bsA (some ⟨g, off, none⟩) l) L L') (hi : i < l.length) : CellAt L g (off + i * 1) (.slice (l[i]).a (l[i]).b.length (l[i]).c) :=
  fun y hy => (bsA_ok.1 (p.ok hy)).cell (x := y) (.head []) hi y ⟨fun _ => true, fun b o e => by simpa [PH.only] using e, trivial⟩
theorem bs_bsA {L L' : List Assn} {a : Option Addr} {l : List SlB} (p : Pick (bsA a l) L L') : ∀ y, Sep L y → bsAt a l y := fun y hy => bsA_ok.1 (p.ok hy)
theorem bs_ex {L L' : List Assn} {x : PH} (p : Pick (exact x) L L') {a : Option Addr} {l : List SlB} (h : bsAt a l x) : ∀ y, Sep L y → bsAt a l y := fun y hy => bsAt_mono h (p.ok hy)
end Go.Cx
namespace Go.Proofs.YtlckhaodecdbbaaGreat
open Go.Cx
attribute [local irreducible] Go.Cx.CX Go.Cx.CC Go.Cx.CQ Go.Cx.PS Go.Cx.Ctr Go.Cx.CH
set_option maxRecDepth 10000
theorem r1row_c (B : Blk) (hB : B.length ≤ 1073741824) (a : Option Addr) (cap : Nat) (hn : a = none → B.length = 0 ∧ cap = 0) : Ctr Tryz.prog 88 [.slice a B.length cap] [] (fun x => rdx a B.length (cb B) x)
    (fun v M => ∃ b c, v = .slice (some ⟨b, 0, none⟩) (4 + B.length) c ∧ M = [own 5 1 (some ⟨b, 0, none⟩) (4 + B.length) c (cb (rowB B))]) := by
  refine Ctr.intro Tryz.func88 rfl Tryz.ntmps88 rfl fun x w hp => ?_
  refine wk ?_
  refine CX.callA (rput_c B.length 4 (by omega) (by omega)) ?_
  rintro _ _ ⟨b, c, rfl, rfl⟩
  refine wk ?_
  refine CX.append (m := B.length) (news := cb B) rfl rfl rfl (by first | exact pickA | exact updA) (rdS_of (rdx_ex (by first | exact pickA | exact updA) hp) rfl) (by omega) hn ?_
  intro a' c'
  have e : cb (le 4 B.length) ++ cb B = cb (rowB B) := by simp [rowB, cb_append]
  rw [e]
  refine CX.fact (own_fact (e := 5) (by first | exact pickA | exact updA) (by omega)) ?_
  rintro ⟨hc1, q, rfl⟩
  refine wk ?_
  (apply CQ.end1; (· rfl); (· exact .tmp rfl))
  · exact ⟨q, c', rfl, rfl⟩
  · exact selA
theorem r7same_c (l k : List SlB) (hl : l.length ≤ 9223372036854775806) (hkl : k.length ≤ 9223372036854775806) (a b : Option Addr) (ca cb' : Nat) : Ctr Tryz.prog 29 [.slice a l.length ca, .slice b k.length cb'] [] (fun x => bsAt a l x ∧ bsAt b k x)
    (fun v M => v = .bool (decide (l.map SlB.b = k.map SlB.b)) ∧ M = []) := by
  refine Ctr.intro Tryz.func29 rfl Tryz.ntmps29 rfl fun x w hp => ?_
  by_cases hn : l.length = k.length
  rotate_left
  · have hne : l.map SlB.b ≠ k.map SlB.b := fun e => hn (by have := congrArg List.length e; simpa using this)
    refine wk ?_
    ((apply CQ.end1; (· rfl); (· exact .tmp rfl)); (· exact ⟨by rw [decide_eq_false hne], rfl⟩); (· exact selA))
  refine wk ?_
  refine CC.loop (X := Nat) (fun i => [(5, .int .i64 (i : Int)), (0, .slice a l.length ca), (1, .slice b k.length cb')]) (fun i => [exact x]) (fun i => i ≤ l.length ∧ ∀ j (h : j < l.length) (h' : j < k.length), j < i → (l[j]).b = (k[j]).b) (fun i => l.length - i) 0 ⟨Nat.zero_le _, fun j h h' h0 => by omega⟩ ⟨rfl, rfl, rfl, trivial⟩ (by exact selA) ?_
  rintro i ⟨hi, hpre⟩
  by_cases h1 : i < l.length
  · have h2 : i < k.length := by omega
    obtain ⟨g, off, rfl⟩ := bsAt_some hp.1 (by omega)
    obtain ⟨g', off', rfl⟩ := bsAt_some hp.2 (by omega)
    have hr := hp.1.2 l[i] (List.getElem_mem h1)
    have hr' := hp.2.2 k[i] (List.getElem_mem h2)
    refine wk ?_
    refine CC.draw [(0, 0), (1, 0), (2, 0), (3, 1), (4, 0), (5, 0), (6, 0), (7, 1), (8, 3), (9, 0)] mixed rfl (by kernel_rfl) (by kernel_rfl) [exact x] ?_
    refine hwk ?_
    refine CH.pure rfl (PS.indexAddr (j := i) rfl rfl rfl rfl (by omega)) ?_
    (apply CH.read; (· rfl); (· apply PS.load (v := .slice (l[i]).a (l[i]).b.length (l[i]).c); (· rfl); (· rfl); (· exact hp.1.cell (by first | exact pickA | exact updA) h1)); (· exact selA))
    refine hwk ?_
    refine CH.pure rfl (PS.indexAddr (j := i) rfl rfl rfl rfl (by omega)) ?_
    (apply CH.read; (· rfl); (· apply PS.load (v := .slice (k[i]).a (k[i]).b.length (k[i]).c); (· rfl); (· rfl); (· exact hp.2.cell (by first | exact pickA | exact updA) h2)); (· exact selA))
    refine CH.tail rfl rfl fun K hK => ?_
    refine CX.callA (same_c (l[i]).b (k[i]).b (l[i]).a (k[i]).a (l[i]).c (k[i]).c) ?_ (hpre := by exact fun y hy => ⟨rdx_ex (show Pick (exact x) _ _ from by first | exact pickA | exact updA) hr.r y hy, rdx_ex (show Pick (exact x) _ _ from by first | exact pickA | exact updA) hr'.r y hy⟩)
    by_cases hb : (l[i]).b = (k[i]).b
    · rw [decide_eq_true hb]
      rintro _ _ ⟨rfl, rfl⟩
      (refine CX.nil ?_; refine CQ.thenK ?_; apply hK; clear hK K)
      refine hwk ?_
      refine wk ?_
      exact CQ.round (i + 1) ⟨by omega, fun j h h' hj => by
        by_cases e : j < i
        · exact hpre j h h' e
        · obtain rfl : j = i := by omega
          exact hb⟩ (by omega) ⟨eqI (by omega), rfl, rfl, trivial⟩ (by exact selA)
    · have hne : l.map SlB.b ≠ k.map SlB.b := fun e => hb (by
        have := congrArg (fun z => z[i]?) e
        simpa [h1, h2] using this)
      rw [decide_eq_false hb]
      rintro _ _ ⟨rfl, rfl⟩
      (refine CX.nil ?_; refine CQ.thenK ?_; apply hK; clear hK K)
      refine hwk ?_
      refine wk ?_
      ((apply CQ.end1; (· rfl); (· exact .tmp rfl)); (· exact ⟨by rw [decide_eq_false hne], rfl⟩); (· exact selA))
  · obtain rfl : i = l.length := by omega
    have heq : l.map SlB.b = k.map SlB.b := by
      apply List.ext_getElem
      · simp [hn]
      · intro j h h'
        simp only [List.getElem_map]
        simp only [List.length_map] at h h'
        exact hpre j h h' h
    refine wk ?_
    ((apply CQ.end1; (· rfl); (· exact .tmp rfl)); (· exact ⟨by rw [decide_eq_true heq], rfl⟩); (· exact selA))
end Go.Proofs.YtlckhaodecdbbaaGreat
/-! Sealed blocks, the document's way (ref 05), and what the statements share (ref 00). -/
namespace Go.Cx
theorem ins_step {B c : Blk} {f j : Nat} (hj : j < c.length) (h : f + c.length ≤ B.length) : (ins B f (c.take j)).set (f + j) c[j] = ins B f (c.take (j + 1)) := by
  have h1 : (c.take j).length = j := by simp; omega
  have h2 : (c.take (j + 1)).length = j + 1 := by simp; omega
  have h0 : (B.take f).length = f := by simp; omega
  unfold ins
  rw [List.set_append_right _ _ (by omega), h0, show f + j - f = j by omega, List.set_append_right _ _ (by omega), h1, Nat.sub_self, h2, List.drop_eq_getElem_cons (by omega), List.set_cons_zero, List.take_succ_eq_append_getElem hj, List.append_assoc]
  congr 3
theorem ins_zero {B : Blk} {f : Nat} : ins B f [] = B := by simp [ins]
theorem set_ins {B c : Blk} {f j : Nat} (hj : j < f) (h : f + c.length ≤ B.length) (y : UInt8) : (ins B f c).set j y = ins (B.set j y) f c := by
  unfold ins
  rw [List.set_append_left _ _ (by simp; omega), List.take_set, List.drop_set, if_pos (by omega)]
/-- The document's way to a sealed block. -/
def ends1 (n : Nat) : Blk := ins (ins zblk 0 (le 8 n)) 120 (le 8 (top - n))
def ends2 (n : Nat) (b : Blk) : Blk := ins (ends1 n) 8 b
theorem ends1_eq (n : Nat) : ends1 n = le 8 n ++ (List.replicate 108 0 ++ (List.replicate 4 0 ++ le 8 (top - n))) := by
  have h1 : ins zblk 0 (le 8 n) = seal1 n := rfl
  have h2 : seal1 n = (le 8 n ++ (List.replicate 108 0 ++ List.replicate 4 0)) ++ (List.replicate 8 0 ++ []) := by
    rw [seal1_eq, List.append_nil, List.append_assoc, List.append_assoc]; rfl
  have h3 := ins_mid (le 8 n ++ (List.replicate 108 0 ++ List.replicate 4 0)) (le 8 (top - n)) [] 8 120 (by simp) (by simp)
  rw [ends1, h1, h2, h3]; simp
theorem ends2_eq {n : Nat} {b : Blk} (h : b.length ≤ 108) : ends2 n b = frontB n b ++ (List.replicate 4 0 ++ le 8 (top - n)) := by
  rw [ends2, ends1_eq, ins_mid _ _ _ _ _ (by simp) h, frontB, padB]
  simp
theorem ends3_eq {n : Nat} {b : Blk} (h : b.length ≤ 108) : (ends2 n b).take 116 = frontB n b ∧ ins (ends2 n b) 116 (le 4 (crcM (frontB n b))) = sealB n b := by
  have e : (ends2 n b).take 116 = frontB n b := by
    rw [ends2_eq h, List.take_append_of_le_length (by rw [front_len h]; omega), List.take_of_length_le (by rw [front_len h]; omega)]
  refine ⟨e, ?_⟩
  have := ins_mid (frontB n b) (le 4 (crcM (frontB n b))) (le 8 (top - n)) 4 116 (front_len h) (by simp)
  rw [ends2_eq h, this, sealB]; simp
theorem ends_WB {n : Nat} {b : Blk} (h : b.length ≤ 108) : WB (ends1 n) ∧ WB (ends2 n b) := by
  refine ⟨?_, ?_⟩
  · rw [ends1_eq]; simp [WB]
  · rw [ends2_eq h]; simp [WB, front_len h]
theorem last_iff {B : Blk} (w : WB B) {m : Nat} (hm : m ≤ top) : le 8 m = B.drop 120 ↔ ofLe (B.drop 120) = m := by
  have w' : B.length = 128 := w
  constructor
  · intro h; rw [← h, ofLe8 hm]
  · intro h; rw [← h]; have := le_ofLe (B.drop 120); rwa [show (B.drop 120).length = 8 by simp; omega] at this
theorem getN_at {B : Blk} {p k : Nat} (hk : k = 1 ∨ k = 2 ∨ k = 4 ∨ k = 8) (h : p + k ≤ B.length) : getN B (p : Int) (k : Int) = (ofLe ((B.drop p).take k), 0) := by
  unfold getN
  rw [if_neg (by unfold okSize; omega), if_neg (by omega)]
  simp
theorem sum_zero {n m : Nat} (hn : n < 18446744073709551616) (hm : m < 18446744073709551616) : (n + m) % 2 ^ IntKind.u64.bits = 0 ∧ n = 0 ↔ n = 0 ∧ m = 0 := by
  simp only [IntKind.bits]; omega
end Go.Cx
namespace Go.Proofs.YtlckhaodecdbbaaGreat
open Go.Cx
attribute [local irreducible] Go.Cx.CX Go.Cx.CC Go.Cx.CQ Go.Cx.PS Go.Cx.Ctr Go.Cx.CH
set_option maxRecDepth 10000
theorem ends_c (n : Nat) (hn : n ≤ top) : Ctr Tryz.prog 71 [.int .u64 (n : Int)] [] (fun _ => True)
    (fun v M => ∃ b c b' c', v = .tuple #[.slice (some ⟨b, 0, none⟩) 8 c, .slice (some ⟨b', 0, none⟩) 8 c'] ∧ M = [own 5 1 (some ⟨b', 0, none⟩) 8 c' (cb (le 8 (top - n))), own 5 1 (some ⟨b, 0, none⟩) 8 c (cb (le 8 n))]) := by
  have e : (18446744073709551615 : Int) - (n : Int) = ((top - n : Nat) : Int) := by simp only [top] at *; omega
  refine Ctr.intro Tryz.func71 rfl Tryz.ntmps71 rfl fun x w hp => ?_
  refine wk ?_
  refine CX.callA (rput_c n 8 (by omega) (by simp only [top] at hn; omega)) ?_
  rintro _ _ ⟨b, c, rfl, rfl⟩
  have h0 : (n : Int) ≤ 18446744073709551615 := by simp only [top] at hn; omega
  refine wk ?_
  rw [e]
  refine CX.callA (rput_c (top - n) 8 (by omega) (by simp only [top]; omega)) ?_
  rintro _ _ ⟨b', c', rfl, rfl⟩
  refine wk ?_
  (apply CQ.end2; (· rfl); (· exact .tmp rfl); (· exact .tmp rfl))
  · exact ⟨b, c, b', c', rfl, rfl⟩
  · exact selA
theorem r5put_c (n : Nat) (hn : n ≤ top) (body : Blk) (hb : body.length ≤ 9223372036854775807) (a : Option Addr) (cap : Nat) : Ctr Tryz.prog 54 [.int .u64 (n : Int), .slice a body.length cap] [] (fun x => rdx a body.length (cb body) x)
    (fun v M => v = .tuple #[.agg (cb (putM n body).1).toArray, .int .i64 (putM n body).2] ∧ M = []) := by
  refine Ctr.intro Tryz.func54 rfl Tryz.ntmps54 rfl fun x w hp => ?_
  refine wk ?_
  (refine CX.allocZ (cb zblk) ?_; intro r)
  refine wk ?_
  (refine CX.allocZ (cb zblk) ?_; intro s)
  refine wk ?_
  by_cases h1 : n = 0
  · have e : putM n body = (zblk, 2) := by unfold putM; rw [if_pos h1]
    rw [e]
    refine wk ?_
    ((apply CX.ps; (· apply PS.loadG (vs := cb (zblk)); (· rfl); (· rfl); (· exact CellsAt.all (by first | exact pickA | exact updA)); (· exact WB_z.len))))
    (apply CX.storeAll; (· rfl); (· rfl); (· rfl); (· first | exact pickA | exact updA); (· exact WB_z.len); (· exact WB_z.len); (· exact one_cb _))
    refine wk ?_
    ((apply CQ.end2; (· rfl); (· exact .cells inferInstance rfl (CellsAt.all (by first | exact pickA | exact updA)) (WB_z.len)); (· exact .tmp rfl)); (· exact ⟨rfl, rfl⟩); (· exact selA))
  by_cases h2 : 108 < body.length
  · have e : putM n body = (zblk, 3) := by unfold putM; rw [if_neg h1, if_pos h2]
    rw [e]
    refine wk ?_
    ((apply CX.ps; (· apply PS.loadG (vs := cb (zblk)); (· rfl); (· rfl); (· exact CellsAt.all (by first | exact pickA | exact updA)); (· exact WB_z.len))))
    (apply CX.storeAll; (· rfl); (· rfl); (· rfl); (· first | exact pickA | exact updA); (· exact WB_z.len); (· exact WB_z.len); (· exact one_cb _))
    refine wk ?_
    ((apply CQ.end2; (· rfl); (· exact .cells inferInstance rfl (CellsAt.all (by first | exact pickA | exact updA)) (WB_z.len)); (· exact .tmp rfl)); (· exact ⟨rfl, rfl⟩); (· exact selA))
  have hl : body.length ≤ 108 := by omega
  have e : putM n body = (sealB n body, 0) := by unfold putM; rw [if_neg h1, if_neg h2]
  rw [e]
  obtain ⟨w1, w2⟩ := ends_WB (n := n) hl
  obtain ⟨e3, e4⟩ := ends3_eq (n := n) hl
  have w4 := sealB_WB (n := n) hl
  refine wk ?_
  refine CX.callA (ends_c n hn) ?_
  rintro _ _ ⟨f, fc, g, gc, rfl, rfl⟩
  refine wk ?_
  refine CC.loop (X := Nat) (fun i => [(9, .int .i64 (i : Int)), (4, .pointer (some ⟨r, 0, none⟩)), (6, .pointer (some ⟨s, 0, none⟩)), (7, .slice (some ⟨f, 0, none⟩) 8 fc), (8, .slice (some ⟨g, 0, none⟩) 8 gc), (1, .slice a body.length cap)])
    (fun i => [own 5 1 (some ⟨f, 0, none⟩) 8 fc (cb (le 8 n)), own 5 1 (some ⟨g, 0, none⟩) 8 gc (cb (le 8 (top - n))), bk r 32 (cb zblk), bk s 32 (cb (ins (ins zblk 0 ((le 8 n).take i)) 120 ((le 8 (top - n)).take i))), exact x])
    (fun i => i ≤ 8) (fun i => 8 - i) 0 (Nat.zero_le _) ⟨rfl, rfl, rfl, rfl, rfl, rfl, trivial⟩ (by simp only [List.take_zero, ins_zero]; exact selA) ?_
  intro i hi
  by_cases h3 : i < 8
  · have k1 : i < (le 8 n).length := by simpa using h3
    have k2 : i < (le 8 (top - n)).length := by simpa using h3
    have l0 : (ins zblk 0 ((le 8 n).take i)).length = 128 := by rw [ins_len] <;> simp [zblk]; omega
    have l1 : (ins (ins zblk 0 ((le 8 n).take i)) 120 ((le 8 (top - n)).take i)).length = 128 := by rw [ins_len, l0]; rw [l0]; simp; omega
    have s1 : (ins (ins zblk 0 ((le 8 n).take i)) 120 ((le 8 (top - n)).take i)).set i ((le 8 n)[i]'k1) = ins (ins zblk 0 ((le 8 n).take (i + 1))) 120 ((le 8 (top - n)).take i) := by
      rw [set_ins (by omega) (by rw [l0]; simp; omega)]
      have := ins_step (B := zblk) (c := le 8 n) (f := 0) k1 (by simp [zblk])
      rw [Nat.zero_add] at this; rw [this]
    have l2 : (ins zblk 0 ((le 8 n).take (i + 1))).length = 128 := by rw [ins_len] <;> simp [zblk]; omega
    have s2 := ins_step (B := ins zblk 0 ((le 8 n).take (i + 1))) (c := le 8 (top - n)) (f := 120) k2 (by rw [l2]; simp)
    have l3 : (ins (ins zblk 0 ((le 8 n).take (i + 1))) 120 ((le 8 (top - n)).take i)).length = 128 := by rw [ins_len, l2]; rw [l2]; simp; omega
    refine wk ?_
    (refine CX.index0 (i) ?_ ?_; (· exact h3))
    (refine CX.loadA _ (CellAt.ownB (j := i) (by first | exact pickA | exact updA) k1) ?_)
    refine CX.ps (PS.indexArr (j := i) rfl rfl rfl rfl (by omega)) ?_
    (refine CX.storeBB (i) ((le 8 n)[i]'k1) ?_ ?_; (· omega))
    rw [s1]
    refine wk ?_
    (refine CX.index0 (i) ?_ ?_; (· exact h3))
    (refine CX.loadA _ (CellAt.ownB (j := i) (by first | exact pickA | exact updA) k2) ?_)
    refine CX.ps (PS.indexArr (j := 120 + i) rfl rfl rfl (by omega) (by omega)) ?_
    (refine CX.storeBB (120 + i) ((le 8 (top - n))[i]'k2) ?_ ?_; (· omega))
    rw [s2]
    refine wk ?_
    exact CQ.round (i + 1) (by omega) (by omega) ⟨eqI (by omega), rfl, rfl, rfl, rfl, rfl, trivial⟩ (by exact selA)
  obtain rfl : i = 8 := by omega
  rw [List.take_of_length_le (by simp), List.take_of_length_le (by simp), show ins (ins zblk 0 (le 8 n)) 120 (le 8 (top - n)) = ends1 n from rfl]
  refine wk ?_
  have w1' : (ends1 n).length = 128 := w1
  refine CC.loop (X := Nat) (fun i => [(10, .int .i64 (i : Int)), (4, .pointer (some ⟨r, 0, none⟩)), (6, .pointer (some ⟨s, 0, none⟩)), (1, .slice a body.length cap)])
    (fun i => [bk r 32 (cb zblk), bk s 32 (cb (ins (ends1 n) 8 (body.take i))), exact x])
    (fun i => i ≤ body.length) (fun i => body.length - i) 0 (Nat.zero_le _) ⟨rfl, rfl, rfl, rfl, trivial⟩ (by simp only [List.take_zero, ins_zero]; exact selA) ?_
  intro i hi
  by_cases h3 : i < body.length
  · obtain ⟨gg, off, rfl⟩ := rdx_some hp (by omega)
    have s1 := ins_step (B := ends1 n) (c := body) (f := 8) h3 (by omega)
    have l1 : (ins (ends1 n) 8 (body.take i)).length = 128 := by rw [ins_len, w1']; rw [w1']; simp; omega
    refine wk ?_
    (refine CX.indexA (i) ?_ ?_; (· exact h3))
    (refine CX.loadA _ (CellAt.rd (j := i) (by first | exact pickA | exact updA) hp rfl h3) ?_)
    refine CX.ps (PS.indexArr (j := 8 + i) rfl rfl rfl (by omega) (by omega)) ?_
    (refine CX.storeBB (8 + i) (body[i]) ?_ ?_; (· omega))
    rw [s1]
    refine wk ?_
    exact CQ.round (i + 1) (by omega) (by omega) ⟨eqI (by omega), rfl, rfl, rfl, trivial⟩ (by exact selA)
  obtain rfl : i = body.length := by omega
  rw [List.take_length, show ins (ends1 n) 8 body = ends2 n body from rfl]
  have w2' : (ends2 n body).length = 128 := w2
  have hl2 : ((ends2 n body).take 116).length = 116 := by simp; omega
  have hlt := crc_lt (frontB n body)
  refine wk ?_
  refine CX.ps (PS.sliceArrHi (h := 116) rfl rfl rfl rfl (by omega)) ?_
  have cc := rof_c ((ends2 n body).take 116) (by omega) (some ⟨s, 0, none⟩) 128 (by omega)
  rw [hl2] at cc
  refine CX.callA (cc) ?_ (hpre := by exact fun y hy => by have := rdx_bk (t := 32) (b := s) (B := ends2 n body) (by first | exact pickA | exact updA) 0 116 (by omega) y hy; rwa [List.drop_zero] at this)
  clear cc
  rintro _ _ ⟨rfl, rfl⟩
  rw [e3]
  refine wk ?_
  refine CX.callA (rput_c (crcM (frontB n body)) 4 (by omega) hlt) ?_
  rintro _ _ ⟨q, qc, rfl, rfl⟩
  refine wk ?_
  refine CC.loop (X := Nat) (fun i => [(13, .int .i64 (i : Int)), (4, .pointer (some ⟨r, 0, none⟩)), (6, .pointer (some ⟨s, 0, none⟩)), (11, .slice (some ⟨q, 0, none⟩) 4 qc)])
    (fun i => [own 5 1 (some ⟨q, 0, none⟩) 4 qc (cb (le 4 (crcM (frontB n body)))), bk r 32 (cb zblk), bk s 32 (cb (ins (ends2 n body) 116 ((le 4 (crcM (frontB n body))).take i))), exact x])
    (fun i => i ≤ 4) (fun i => 4 - i) 0 (Nat.zero_le _) ⟨rfl, rfl, rfl, rfl, trivial⟩ (by simp only [List.take_zero, ins_zero]; exact selA) ?_
  intro i hi
  by_cases h3 : i < 4
  · have k1 : i < (le 4 (crcM (frontB n body))).length := by simpa using h3
    have s1 := ins_step (B := ends2 n body) (c := le 4 (crcM (frontB n body))) (f := 116) k1 (by simp; omega)
    have l1 : (ins (ends2 n body) 116 ((le 4 (crcM (frontB n body))).take i)).length = 128 := by rw [ins_len, w2']; rw [w2']; simp; omega
    refine wk ?_
    (refine CX.index0 (i) ?_ ?_; (· exact h3))
    (refine CX.loadA _ (CellAt.ownB (j := i) (by first | exact pickA | exact updA) k1) ?_)
    refine CX.ps (PS.indexArr (j := 116 + i) rfl rfl rfl (by omega) (by omega)) ?_
    (refine CX.storeBB (116 + i) ((le 4 (crcM (frontB n body)))[i]) ?_ ?_; (· omega))
    rw [s1]
    refine wk ?_
    exact CQ.round (i + 1) (by omega) (by omega) ⟨eqI (by omega), rfl, rfl, rfl, trivial⟩ (by exact selA)
  obtain rfl : i = 4 := by omega
  rw [List.take_of_length_le (by simp), e4]
  refine wk ?_
  ((apply CX.ps; (· apply PS.loadG (vs := cb (sealB n body)); (· rfl); (· rfl); (· exact CellsAt.all (by first | exact pickA | exact updA)); (· exact w4.len))))
  (apply CX.storeAll; (· rfl); (· rfl); (· rfl); (· first | exact pickA | exact updA); (· exact w4.len); (· exact WB_z.len); (· exact one_cb _))
  refine wk ?_
  ((apply CQ.end2; (· rfl); (· exact .cells inferInstance rfl (CellsAt.all (by first | exact pickA | exact updA)) (w4.len)); (· exact .tmp rfl)); (· exact ⟨rfl, rfl⟩); (· exact selA))
theorem r5get_c (B : Blk) (hB : WB B) : Ctr Tryz.prog 116 [.agg (cb B).toArray] [] (fun _ => True) (GotM B) := by
  have hB' : B.length = 128 := hB
  have hl8 := valid_top hB
  have g1 := getN_at (B := B) (p := 0) (k := 8) (by omega) (by omega)
  have g2 := getN_at (B := B) (p := 116) (k := 4) (by omega) (by omega)
  rw [List.drop_zero] at g1
  have h4 := ofLe_lt ((B.drop 116).take 4)
  rw [show ((B.drop 116).take 4).length = 4 by simp; omega] at h4
  have hcr := crc_lt (B.take 116)
  have li := last_iff hB (m := top - ofLe (B.take 8)) (by omega)
  have cut0 : ∀ b : Nat, cutAt (some ⟨b, 0, none⟩) 0 128 1 = some ⟨b, 0, none⟩ := fun b => by unfold cutAt; simp [addr_add]
  have cut120 : ∀ b : Nat, cutAt (some ⟨b, 0, none⟩) 120 128 1 = some ⟨b, 120, none⟩ := fun b => by unfold cutAt; simp [addr_add]
  refine Ctr.intro Tryz.func116 rfl Tryz.ntmps116 rfl fun x w hp => ?_
  refine wk ?_
  (refine CX.boxA ?_; intro r)
  refine wk ?_
  refine CX.ps (PS.sliceArr (l := 0) (h := 128) rfl rfl rfl rfl (.inl ⟨rfl, rfl⟩) (.inl ⟨rfl, rfl⟩) (by omega) (by omega)) ?_
  rw [cut0]
  have cc := rget_c B (some ⟨r, 0, none⟩) 128 0 8 (by omega) (by omega) (by omega)
  rw [hB', show getN B 0 8 = _ from g1] at cc
  refine CX.callA (cc) ?_ (hpre := by exact full_rdx hB (by first | exact pickA | exact updA))
  clear cc
  rintro _ _ ⟨rfl, rfl⟩
  refine wk ?_
  refine CX.callA (ends_c (ofLe (B.take 8)) hl8) ?_
  rintro _ _ ⟨f, fc, g, gc, rfl, rfl⟩
  refine wk ?_
  by_cases h1 : ofLe (B.take 8) = 0
  · have e : getM B = (0, [], 5) := by unfold getM; rw [if_pos (.inl (by omega))]
    rw [h1]
    refine wk ?_
    refine CC.draw [(0, 0), (1, 0), (2, 0), (3, 0), (4, 1), (5, 0), (6, 1), (7, 0), (8, 0)] mixed rfl (by kernel_rfl) (by kernel_rfl) [bk r 32 (cb B)] ?_
    refine hwk ?_
    refine wk ?_
    refine CQ.ownNil 5 1 ?_
    (apply CQ.end3; (· rfl); (· exact .tmp rfl); (· exact .tmp rfl); (· exact .tmp rfl))
    · exact (show GotM B _ [own 5 1 none 0 0 (cb [])] from ⟨none, 0, by rw [e]; rfl, by rw [e]; rfl⟩)
    · exact selA
  refine CC.draw [(0, 0), (1, 0), (2, 0), (3, 0), (4, 1), (5, 0), (6, 1), (7, 0), (8, 0)] mixed rfl (by kernel_rfl) (by kernel_rfl) [bk r 32 (cb B), own 5 1 (some ⟨g, 0, none⟩) 8 gc (cb (le 8 (top - ofLe (B.take 8))))] ?_
  refine hwk ?_
  refine CH.read rfl (PS.toStr (b := le 8 (top - ofLe (B.take 8))) rfl rfl (by simp) (rdx_own (by first | exact pickA | exact updA) (by simp))) (by exact selA) ?_
  refine hwk ?_
  refine CH.pure rfl (PS.sliceArr (l := 120) (h := 128) rfl rfl rfl rfl (.inr ⟨_, rfl⟩) (.inl ⟨rfl, rfl⟩) (by omega) (by omega)) ?_
  rw [cut120]
  refine CH.read rfl (PS.toStr (b := B.drop 120) rfl rfl (by simp; omega) (fun y hy => by have := rdx_bk (t := 32) (b := r) (B := B) (by first | exact pickA | exact updA) 120 8 (by omega) y hy; rwa [List.take_of_length_le (by simp; omega)] at this)) (by exact selA) ?_
  refine CH.pure rfl (PS.neqStr rfl rfl rfl) ?_
  refine hwk ?_
  by_cases h2 : ofLe (B.drop 120) = top - ofLe (B.take 8)
  · have h2' : ¬ (le 8 (top - ofLe (B.take 8)) ≠ B.drop 120) := fun h => h (li.2 h2)
    refine wk ?_
    refine CX.ps (PS.sliceArr (l := 0) (h := 128) rfl rfl rfl rfl (.inl ⟨rfl, rfl⟩) (.inl ⟨rfl, rfl⟩) (by omega) (by omega)) ?_
    rw [cut0]
    have cc := rget_c B (some ⟨r, 0, none⟩) 128 116 4 (by omega) (by omega) (by omega)
    rw [hB', show getN B 116 4 = _ from g2] at cc
    refine CX.callA (cc) ?_ (hpre := by exact full_rdx hB (by first | exact pickA | exact updA))
    clear cc
    rintro _ _ ⟨rfl, rfl⟩
    refine wk ?_
    refine CX.ps (PS.sliceArrHi (h := 116) rfl rfl rfl rfl (by omega)) ?_
    have hl2 : (B.take 116).length = 116 := by simp; omega
    have cc := rof_c (B.take 116) (by omega) (some ⟨r, 0, none⟩) 128 (by omega)
    rw [hl2] at cc
    refine CX.callA (cc) ?_ (hpre := by exact fun y hy => by have := rdx_bk (t := 32) (b := r) (B := B) (by first | exact pickA | exact updA) 0 116 (by omega) y hy; rwa [List.drop_zero] at this)
    clear cc
    rintro _ _ ⟨rfl, rfl⟩
    by_cases h3 : ofLe ((B.drop 116).take 4) = crcM (B.take 116)
    · have e : getM B = (ofLe (B.take 8), (B.drop 8).take 108, 0) := by unfold getM; rw [if_neg (by omega), if_neg (by omega)]
      have hl : ((B.drop 8).take 108).length = 108 := by simp; omega
      refine wk ?_
      refine CC.ownNil 5 1 ?_
      refine CC.loop (X := Nat × Option Addr × Nat) (fun s => [(12, .int .i64 ((8 + s.1 : Nat) : Int)), (11, .slice s.2.1 s.1 s.2.2), (1, .pointer (some ⟨r, 0, none⟩)), (5, .int .u64 ((ofLe (B.take 8) : Nat) : Int))])
        (fun s => [own 5 1 s.2.1 s.1 s.2.2 (cb (((B.drop 8).take 108).take s.1)), bk r 32 (cb B), exact x]) (fun s => s.1 ≤ 108) (fun s => 108 - s.1) (0, none, 0) (Nat.zero_le _) ⟨rfl, rfl, rfl, rfl, trivial⟩ (by exact selA) ?_
      rintro ⟨i, a, c⟩ hi
      dsimp only at hi ⊢
      by_cases h5 : i < 108
      · have h6 : 8 + i < B.length := by omega
        have es : ((B.drop 8).take 108).take (i + 1) = ((B.drop 8).take 108).take i ++ [B[8 + i]] := by
          rw [List.take_succ_eq_append_getElem (by omega)]; simp
        refine wk ?_
        refine CX.ps (PS.indexArr (j := 8 + i) rfl rfl rfl rfl (by omega)) ?_
        (refine CX.loadA _ (CellAt.bkB (j := 8 + i) (by first | exact pickA | exact updA) h6) ?_)
        (refine CX.appB (B[8 + i]) ?_ ?_ ?_; (· omega); (· rfl); intro bq a' c')
        rw [← es]
        refine wk ?_
        exact CQ.round (x := (i, a, c)) (i + 1, a', c') (by dsimp only; omega) (by dsimp only; omega) ⟨eqI (by dsimp only; omega), rfl, rfl, rfl, trivial⟩ (by exact selA)
      · obtain rfl : i = 108 := by omega
        rw [show ((B.drop 8).take 108).take 108 = (B.drop 8).take 108 from List.take_of_length_le (by omega)]
        refine wk ?_
        (apply CQ.end3; (· rfl); (· exact .tmp rfl); (· exact .tmp rfl); (· exact .tmp rfl))
        · exact (show GotM B _ [own 5 1 a 108 c (cb ((B.drop 8).take 108))] from ⟨a, c, by rw [e]; dsimp only; rw [hl], by rw [e]; dsimp only; rw [hl]⟩)
        · exact selA
    · have e : getM B = (0, [], 6) := by unfold getM; rw [if_neg (by omega), if_pos h3]
      refine wk ?_
      refine CQ.ownNil 5 1 ?_
      (apply CQ.end3; (· rfl); (· exact .tmp rfl); (· exact .tmp rfl); (· exact .tmp rfl))
      · exact (show GotM B _ [own 5 1 none 0 0 (cb [])] from ⟨none, 0, by rw [e]; rfl, by rw [e]; rfl⟩)
      · exact selA
  · have e : getM B = (0, [], 5) := by unfold getM; rw [if_pos (.inr h2)]
    have h2' : le 8 (top - ofLe (B.take 8)) ≠ B.drop 120 := fun h => h2 (li.1 h)
    refine wk ?_
    refine CQ.ownNil 5 1 ?_
    (apply CQ.end3; (· rfl); (· exact .tmp rfl); (· exact .tmp rfl); (· exact .tmp rfl))
    · exact (show GotM B _ [own 5 1 none 0 0 (cb [])] from ⟨none, 0, by rw [e]; rfl, by rw [e]; rfl⟩)
    · exact selA
theorem r5worth_c (B : Blk) (hB : WB B) : Ctr Tryz.prog 106 [.agg (cb B).toArray] [] (fun _ => True) (fun v M => v = .int .u64 ((getM B).1 : Int) ∧ M = []) := by
  refine Ctr.intro Tryz.func106 rfl Tryz.ntmps106 rfl fun x w hp => ?_
  refine wk ?_
  (refine CX.boxA ?_; intro r)
  refine wk ?_
  ((apply CX.ps; (· apply PS.loadG (vs := cb (B)); (· rfl); (· rfl); (· exact CellsAt.all (by first | exact pickA | exact updA)); (· exact hB.len))))
  refine CX.callA (r5get_c B hB) ?_
  rintro _ _ ⟨a, c, rfl, rfl⟩
  refine wk ?_
  ((apply CQ.end1; (· rfl); (· exact .tmp rfl)); (· exact ⟨rfl, rfl⟩); (· exact selA))
theorem r5next_c (A B : Blk) (hA : WB A) (hB : WB B) : Ctr Tryz.prog 90 [.agg (cb A).toArray, .agg (cb B).toArray] [] (fun _ => True) (fun v M => v = .int .i64 (nextM A B) ∧ M = []) := by
  refine Ctr.intro Tryz.func90 rfl Tryz.ntmps90 rfl fun x w hp => ?_
  refine wk ?_
  (refine CX.boxA ?_; intro r)
  refine wk ?_
  (refine CX.boxA ?_; intro s)
  refine wk ?_
  refine CC.draw [(0, 1), (1, 2), (2, 0), (3, 0), (4, 1), (6, 1), (5, 2), (7, 2), (8, 0), (9, 0)] mixed rfl (by kernel_rfl) (by kernel_rfl) [bk r 32 (cb A), bk s 32 (cb B)] ?_
  (apply CH.read; (· rfl); (· apply PS.loadG (vs := cb A); (· rfl); (· rfl); (· exact CellsAt.all (by first | exact pickA | exact updA)); (· exact hA.len)); (· exact selA))
  refine CH.chain rfl fun K hK => ?_
  refine CX.callA (r5worth_c A hA) ?_
  rintro _ _ ⟨rfl, rfl⟩
  (refine CX.nil ?_; refine CQ.thenK ?_; apply hK; (· exact selA); clear hK K)
  by_cases h1 : (getM A).1 = 0
  · have e : nextM A B = 0 := by unfold nextM; split <;> first | rfl | (rw [if_pos (by omega)])
    refine hwk ?_
    refine wk ?_
    rw [e]
    ((apply CQ.end1; (· rfl); (· exact .tmp rfl)); (· exact ⟨rfl, rfl⟩); (· exact selA))
  · refine hwk ?_
    (apply CH.read; (· rfl); (· apply PS.loadG (vs := cb A); (· rfl); (· rfl); (· exact CellsAt.all (by first | exact pickA | exact updA)); (· exact hA.len)); (· exact selA))
    (apply CH.read; (· rfl); (· apply PS.loadG (vs := cb B); (· rfl); (· rfl); (· exact CellsAt.all (by first | exact pickA | exact updA)); (· exact hB.len)); (· exact selA))
    refine CH.chain rfl fun K hK => ?_
    refine CX.callA (r5worth_c A hA) ?_
    rintro _ _ ⟨rfl, rfl⟩
    (refine CX.nil ?_; refine CQ.thenK ?_; apply hK; (· exact selA); clear hK K)
    refine CH.chain rfl fun K hK => ?_
    refine CX.callA (r5worth_c B hB) ?_
    rintro _ _ ⟨rfl, rfl⟩
    (refine CX.nil ?_; refine CQ.thenK ?_; apply hK; (· exact selA); clear hK K)
    by_cases h2 : (getM A).1 < (getM B).1
    · have e : nextM A B = 0 := by unfold nextM; rw [if_neg (by omega), if_pos h2]
      refine hwk ?_
      refine wk ?_
      rw [e]
      ((apply CQ.end1; (· rfl); (· exact .tmp rfl)); (· exact ⟨rfl, rfl⟩); (· exact selA))
    · have e : nextM A B = 1 := by unfold nextM; rw [if_neg (by omega), if_neg h2]
      refine hwk ?_
      refine wk ?_
      rw [e]
      ((apply CQ.end1; (· rfl); (· exact .tmp rfl)); (· exact ⟨rfl, rfl⟩); (· exact selA))
/-- Bytes with room behind them. -/
def wideB (b : Blk) : Blk := b ++ List.replicate 3 7
theorem wide_hi {B : Blk} {i : Nat} (h : B.length ≤ i) (hi : i < (wideB B).length) : (wideB B)[i] = 7 := by
  have h2 : i < B.length + 3 := by simpa [wideB] using hi
  have e : (wideB B)[i]? = some 7 := by
    rw [wideB, List.getElem?_append_right h, List.getElem?_replicate, if_pos (by omega)]
  rw [List.getElem?_eq_getElem hi] at e
  exact Option.some.inj e
end Go.Proofs.YtlckhaodecdbbaaGreat
/-! What layer 6's statements do, step by step: what is put is got. -/
namespace Go.Cx
theorem getH_z : getH zblk = (0, HdM.z, 5) := by
  have h : getM zblk = (0, [], 5) := by unfold getM; rw [if_pos]; left; decide
  unfold getH; rw [h]; rfl
theorem put1 : putH 1 HdM.z = (sealB 1 HdM.z.bytes, 0) := by unfold putH; rw [if_neg (by decide)]
theorem put0 : putH 0 HdM.z = (zblk, 2) := by unfold putH; rw [if_pos (by decide)]
theorem put12 : putH 1 ⟨0, 1, 2⟩ = (zblk, 2) := by unfold putH; rw [if_pos (by decide)]
theorem got1 : getH (sealB 1 HdM.z.bytes) = (1, HdM.z, 0) := by
  have := (get_put (n := 1) (h := HdM.z) (by rw [put1])).2.2.2.2
  rwa [put1] at this
theorem new1 : newH (sealB 1 HdM.z.bytes) zblk = (1, HdM.z, 0) := by unfold newH; rw [got1, getH_z]; decide
theorem ok_z : HdM.z.ok := ⟨by decide, by decide, by decide⟩
theorem putH_WB6 (n : Nat) (h : HdM) : WB (putH n h).1 := by
  unfold putH
  split
  · exact WB_z
  · exact sealB_WB (by rw [bytes_len]; omega)
theorem getH_ok {b : Blk} : (getH b).2.1.ok := by
  unfold getH
  split
  · exact ok_z
  split
  · exact ok_z
  · exact ofBody_ok _
theorem getH_lt (b : Blk) : (getH b).1 < 18446744073709551616 := by
  have := getM_lt b
  unfold getH
  split
  · omega
  split
  · omega
  · exact this
end Go.Cx
namespace Go.Proofs.YtlckhaodecdbbaaGreat
open Go.Cx
attribute [local irreducible] Go.Cx.CX Go.Cx.CC Go.Cx.CQ Go.Cx.PS Go.Cx.Ctr Go.Cx.CH
set_option maxRecDepth 10000
end Go.Proofs.YtlckhaodecdbbaaGreat
/-! What the statement HeadNewest does, step by step. -/
namespace Go.Cx
theorem putH_eq {n : Nat} {h : HdM} (h1 : 1 ≤ n) (h2 : n ≤ most) (hm : h.may) : putH n h = (sealB n h.bytes, 0) := by
  unfold putH; rw [if_neg]; rintro (q | q | q) <;> first | omega | exact q hm
theorem getH_eq1 {n : Nat} {h : HdM} (h1 : 1 ≤ n) (h2 : n ≤ most) (hm : h.may) : getH (sealB n h.bytes) = (n, h, 0) := by
  have := (get_put (n := n) (h := h) (by rw [putH_eq h1 h2 hm])).2.2.2.2
  rwa [putH_eq h1 h2 hm] at this
theorem newH_two {n m : Nat} {a b : HdM} {x y : Blk} (hx : getH x = (n, a, 0)) (hy : getH y = (m, b, 0)) : newH x y = if n < m then (m, b, 0) else (n, a, 0) := by
  unfold newH; rw [hx, hy]; simp
theorem newH_one {m : Nat} {b : HdM} {x y : Blk} (hx : (getH x).2.2 ≠ 0) (hy : getH y = (m, b, 0)) : newH x y = (m, b, 0) := by
  unfold newH; rw [hy]; simp [hx]
theorem newH_left {m : Nat} {b : HdM} {x y : Blk} (hx : (getH x).2.2 ≠ 0) (hy : getH y = (m, b, 0)) : newH y x = (m, b, 0) := by
  unfold newH; rw [hy]; simp [hx]
theorem newH_no {x y : Blk} (hx : (getH x).2.2 ≠ 0) (hy : (getH y).2.2 ≠ 0) : newH x y = (0, HdM.z, 7) := by
  unfold newH; rw [if_pos ⟨hx, hy⟩]
end Go.Cx
namespace Go.Proofs.YtlckhaodecdbbaaGreat
open Go.Cx
attribute [local irreducible] Go.Cx.CX Go.Cx.CC Go.Cx.CQ Go.Cx.PS Go.Cx.Ctr Go.Cx.CH
set_option maxRecDepth 10000
end Go.Proofs.YtlckhaodecdbbaaGreat
/-! Heads, the document's way (ref 06). -/
namespace Go.Proofs.YtlckhaodecdbbaaGreat
open Go.Cx
attribute [local irreducible] Go.Cx.CX Go.Cx.CC Go.Cx.CQ Go.Cx.PS Go.Cx.Ctr Go.Cx.CH
set_option maxRecDepth 10000
theorem r6may_c (h : HdM) : Ctr Tryz.prog 52 [.agg (hc h).toArray] [] (fun _ => True) (fun v M => v = .bool (decide h.may) ∧ M = []) := by
  refine Ctr.intro Tryz.func52 rfl Tryz.ntmps52 rfl fun x w hp => ?_
  refine wk ?_
  (refine CX.boxA (vs := hc h) ?_; intro r)
  by_cases h1 : h.bank < 2
  · by_cases h2 : h.blocks ≤ 4096
    · by_cases h3 : h.batches ≤ h.blocks
      · refine wk ?_
        ((apply CQ.end1; (· rfl); (· exact .tmp rfl)); (· exact ⟨by rw [decide_eq_true (show h.may from ⟨h1, h2, h3⟩)], rfl⟩); (· exact selA))
      · refine wk ?_
        ((apply CQ.end1; (· rfl); (· exact .tmp rfl)); (· exact ⟨by rw [decide_eq_false (show ¬ h.may from fun q => h3 q.2.2)], rfl⟩); (· exact selA))
    · refine wk ?_
      ((apply CQ.end1; (· rfl); (· exact .tmp rfl)); (· exact ⟨by rw [decide_eq_false (show ¬ h.may from fun q => h2 q.2.1)], rfl⟩); (· exact selA))
  · refine wk ?_
    ((apply CQ.end1; (· rfl); (· exact .tmp rfl)); (· exact ⟨by rw [decide_eq_false (show ¬ h.may from fun q => h1 q.1)], rfl⟩); (· exact selA))
theorem r6number_c (n : Nat) : Ctr Tryz.prog 51 [.int .u64 (n : Int)] [] (fun _ => True) (fun v M => v = .bool (decide (1 ≤ n ∧ n ≤ 4611686018427387904)) ∧ M = []) := by
  refine Ctr.intro Tryz.func51 rfl Tryz.ntmps51 rfl fun x w hp => ?_
  by_cases h1 : 1 ≤ n
  · by_cases h2 : n ≤ 4611686018427387904
    · refine wk ?_
      ((apply CQ.end1; (· rfl); (· exact .tmp rfl)); (· exact ⟨by rw [decide_eq_true ⟨h1, h2⟩], rfl⟩); (· exact selA))
    · refine wk ?_
      ((apply CQ.end1; (· rfl); (· exact .tmp rfl)); (· exact ⟨by rw [decide_eq_false (fun q => h2 q.2)], rfl⟩); (· exact selA))
  · refine wk ?_
    ((apply CQ.end1; (· rfl); (· exact .tmp rfl)); (· exact ⟨by rw [decide_eq_false (fun q => h1 q.1)], rfl⟩); (· exact selA))
theorem r6put_c (n : Nat) (hn : n ≤ top) (h : HdM) (ok : h.ok) : Ctr Tryz.prog 24 [.int .u64 (n : Int), .agg (hc h).toArray] [] (fun _ => True) (fun v M => v = .tuple #[.agg (cb (putH n h).1).toArray, .int .i64 (putH n h).2] ∧ M = []) := by
  have o1 := ok.bank
  have o2 := ok.blocks
  have o3 := ok.batches
  refine Ctr.intro Tryz.func24 rfl Tryz.ntmps24 rfl fun x w hp => ?_
  refine wk ?_
  (refine CX.boxA (vs := hc h) ?_; intro r)
  (refine CX.allocZ (cb zblk) ?_; intro s)
  refine wk ?_
  by_cases h1 : 1 ≤ n ∧ n ≤ 4611686018427387904
  · (have cc := r6number_c n; simp only [decide_eq_true h1] at cc; refine CX.callA cc ?_; clear cc; rintro _ _ ⟨rfl, rfl⟩)
    by_cases h3 : h.may
    · have e : putH n h = (sealB n h.bytes, 0) := putH_eq h1.1 h1.2 h3
      have ep : putM n h.bytes = (sealB n h.bytes, 0) := by unfold putM; rw [if_neg (by omega), if_neg (by rw [bytes_len]; omega)]
      have wB : WB (sealB n h.bytes) := sealB_WB (by rw [bytes_len]; omega)
      have hbk : ((UInt8.ofNat h.bank).toNat : Int) = (h.bank : Int) := by simp; omega
      rw [e]
      refine wk ?_
      ((apply CX.ps; (· apply PS.loadG (vs := hc h); (· rfl); (· rfl); (· exact CellsAt.all (by first | exact pickA | exact updA)); (· rfl))))
      (have cc := r6may_c h; simp only [decide_eq_true h3] at cc; refine CX.callA cc ?_; clear cc; rintro _ _ ⟨rfl, rfl⟩)
      refine wk ?_
      refine CX.callA (rput_c h.blocks 4 (by omega) (by omega)) ?_
      rintro _ _ ⟨b1, c1, rfl, rfl⟩
      refine wk ?_
      refine CX.callA (rput_c h.batches 4 (by omega) (by omega)) ?_
      rintro _ _ ⟨b2, c2, rfl, rfl⟩
      refine wk ?_
      apply CX.buildSl (vs := [(0, .int .u8 ((UInt8.ofNat h.bank).toNat : Int))]) (out := cb (le 1 h.bank))
      · rfl
      · simp only [evp]; rw [hbk]; rfl
      · decide
      · simp [fillL, Value.cells, setL, cb, ib, le]
      intro bq
      refine CX.ownBk (m := 1) (sz := 1) (by first | exact pickA | exact updA) (by simp) (by decide) ?_
      refine wk ?_
      apply CX.append (m := 4) (news := cb (le 4 h.blocks))
      · rfl
      · rfl
      · rfl
      · first | exact pickA | exact updA
      · exact RdS.own (e := 5) (by first | exact pickA | exact updA) (one_cb _) rfl
      · simp
      · intro hh; cases hh
      intro a3 c3
      rw [← cb_append]
      refine wk ?_
      apply CX.append (m := 4) (news := cb (le 4 h.batches))
      · rfl
      · rfl
      · rfl
      · first | exact pickA | exact updA
      · exact RdS.own (e := 5) (by first | exact pickA | exact updA) (one_cb _) rfl
      · simp
      · intro hh; cases hh
      intro a4 c4
      rw [← cb_append, List.append_assoc, show le 1 h.bank ++ (le 4 h.blocks ++ le 4 h.batches) = h.bytes from rfl]
      refine wk ?_
      have cc := r5put_c n hn h.bytes (by rw [bytes_len]; omega) a4 c4
      rw [ep, bytes_len] at cc
      refine CX.callA (cc) ?_ (hpre := by exact rdx_own (e := 5) (by first | exact pickA | exact updA) (by rw [bytes_len]))
      clear cc
      rintro _ _ ⟨rfl, rfl⟩
      refine wk ?_
      (apply CX.storeAll; (· rfl); (· rfl); (· rfl); (· first | exact pickA | exact updA); (· exact wB.len); (· exact WB_z.len); (· exact one_cb _))
      refine wk ?_
      ((apply CQ.end2; (· rfl); (· exact .cells inferInstance rfl (CellsAt.all (by first | exact pickA | exact updA)) (wB.len)); (· exact .tmp rfl)); (· exact ⟨rfl, rfl⟩); (· exact selA))
    · have e : putH n h = (zblk, 2) := by unfold putH; rw [if_pos (.inr (.inr h3))]
      rw [e]
      refine wk ?_
      ((apply CX.ps; (· apply PS.loadG (vs := hc h); (· rfl); (· rfl); (· exact CellsAt.all (by first | exact pickA | exact updA)); (· rfl))))
      (have cc := r6may_c h; simp only [decide_eq_false h3] at cc; refine CX.callA cc ?_; clear cc; rintro _ _ ⟨rfl, rfl⟩)
      refine wk ?_
      (apply CX.ps; (· apply PS.buildZ (vs := cb zblk); (· rfl); (· simp [cb_z, Value.cells])))
      (apply CX.storeAll; (· rfl); (· rfl); (· rfl); (· first | exact pickA | exact updA); (· exact WB_z.len); (· exact WB_z.len); (· exact one_cb _))
      refine wk ?_
      ((apply CQ.end2; (· rfl); (· exact .cells inferInstance rfl (CellsAt.all (by first | exact pickA | exact updA)) (WB_z.len)); (· exact .tmp rfl)); (· exact ⟨rfl, rfl⟩); (· exact selA))
  · have e : putH n h = (zblk, 2) := by
      unfold putH; rw [if_pos]
      by_cases h2 : n = 0
      · exact .inl h2
      · exact .inr (.inl (by simp only [most]; omega))
    rw [e]
    (have cc := r6number_c n; simp only [decide_eq_false h1] at cc; refine CX.callA cc ?_; clear cc; rintro _ _ ⟨rfl, rfl⟩)
    refine wk ?_
    (apply CX.ps; (· apply PS.buildZ (vs := cb zblk); (· rfl); (· simp [cb_z, Value.cells])))
    (apply CX.storeAll; (· rfl); (· rfl); (· rfl); (· first | exact pickA | exact updA); (· exact WB_z.len); (· exact WB_z.len); (· exact one_cb _))
    refine wk ?_
    ((apply CQ.end2; (· rfl); (· exact .cells inferInstance rfl (CellsAt.all (by first | exact pickA | exact updA)) (WB_z.len)); (· exact .tmp rfl)); (· exact ⟨rfl, rfl⟩); (· exact selA))
theorem r6get_c (B : Blk) (hB : WB B) : Ctr Tryz.prog 99 [.agg (cb B).toArray] [] (fun _ => True) (GotH B) := by
  have hB' : B.length = 128 := hB
  have hH := getH_eq hB
  refine Ctr.intro Tryz.func99 rfl Tryz.ntmps99 rfl fun x w hp => ?_
  refine wk ?_
  (refine CX.boxA ?_; intro r)
  refine wk ?_
  refine CX.allocZ (hc HdM.z) ?_ (hv := rfl)
  intro rh
  refine wk ?_
  ((apply CX.ps; (· apply PS.loadG (vs := cb (B)); (· rfl); (· rfl); (· exact CellsAt.all (by first | exact pickA | exact updA)); (· exact hB.len))))
  refine CX.callA (r5get_c B hB) ?_
  rintro _ _ ⟨a, c, rfl, rfl⟩
  by_cases he : (getM B).2.2 = 0
  · have hv := get_valid he
    have g := get_ok hv
    have hl : ((B.drop 8).take 108).length = 108 := by simp; omega
    have eb : (getM B).2.1 = (B.drop 8).take 108 := by rw [g]
    have hn : (getM B).1 < 18446744073709551616 := getM_lt B
    rw [if_neg (by simp [he]), eb] at hH
    rw [eb, hl, he]
    generalize (B.drop 8).take 108 = D at hl hH
    generalize (getM B).1 = n at hn hH
    have ok := ofBody_ok D
    have wP := putH_WB6 n (ofBody D)
    refine CX.fact (own_fact (e := 5) (by first | exact pickA | exact updA) (by omega)) ?_
    rintro ⟨hc1, q, rfl⟩
    have b1 := ofLe_tk D 1
    have b2 := ofLe_tk (D.drop 1) 4
    have b3 := ofLe_tk (D.drop 5) 4
    have e0 : ofLe (D.take 1) = (D[0]'(by omega)).toNat := by
      rw [List.take_succ_eq_append_getElem (by omega)]; simp [ofLe]
    have g1 := getN_at (B := D) (p := 1) (k := 4) (by omega) (by omega)
    have g2 := getN_at (B := D) (p := 5) (k := 4) (by omega) (by omega)
    refine wk ?_
    have cc := rget_c D (some ⟨q, 0, none⟩) c 1 4 (by omega) (by omega) (by omega)
    rw [hl, show getN D 1 4 = _ from g1] at cc
    refine CX.callA (cc) ?_ (hpre := by exact rdx_own (e := 5) (by first | exact pickA | exact updA) hl.symm)
    clear cc
    rintro _ _ ⟨rfl, rfl⟩
    refine wk ?_
    have cc := rget_c D (some ⟨q, 0, none⟩) c 5 4 (by omega) (by omega) (by omega)
    rw [hl, show getN D 5 4 = _ from g2] at cc
    refine CX.callA (cc) ?_ (hpre := by exact rdx_own (e := 5) (by first | exact pickA | exact updA) hl.symm)
    clear cc
    rintro _ _ ⟨rfl, rfl⟩
    refine wk ?_
    (refine CX.index0 (0) ?_ ?_; (· omega))
    (refine CX.loadA _ (CellAt.ownB (j := 0) (by first | exact pickA | exact updA) (by omega)) ?_)
    rw [← e0]
    refine wk ?_
    (apply CX.ps; (· apply PS.build (out := hc (ofBody D)); (· rfl); (· rfl); (· rfl)))
    refine CX.allocZ (hc HdM.z) ?_ (hv := rfl)
    intro rk
    (refine CX.storeB (vs := hc (ofBody D)) ?_ ?_ ?_ ?_; (· rfl); (· rfl); (· exact one_all rfl))
    refine wk ?_
    ((apply CX.ps; (· apply PS.loadG (vs := hc (ofBody D)); (· rfl); (· rfl); (· exact CellsAt.all (by first | exact pickA | exact updA)); (· rfl))))
    refine CX.callA (r6put_c n (by simp only [top]; omega) (ofBody D) ok) ?_
    rintro _ _ ⟨rfl, rfl⟩
    generalize (putH n (ofBody D)).1 = P at *
    generalize (putH n (ofBody D)).2 = ep at *
    refine wk ?_
    (refine CX.allocZ (cb zblk) ?_; intro rp)
    refine wk ?_
    (apply CX.storeAll; (· rfl); (· rfl); (· rfl); (· first | exact pickA | exact updA); (· exact wP.len); (· exact WB_z.len); (· exact one_cb _))
    by_cases h1 : ep = 0
    · by_cases h2 : P = B
      · have e : getH B = (n, ofBody D, 0) := by rw [hH, if_neg]; rintro (k | k) <;> first | exact k h1 | exact k h2
        refine wk ?_
        ((apply CX.ps; (· apply PS.loadG (vs := cb (P)); (· rfl); (· rfl); (· exact CellsAt.all (by first | exact pickA | exact updA)); (· exact wP.len))))
        ((apply CX.ps; (· apply PS.loadG (vs := cb (B)); (· rfl); (· rfl); (· exact CellsAt.all (by first | exact pickA | exact updA)); (· exact hB.len))))
        (apply CX.ps; (· refine PS.toF (PS.neqB (a := P) (b := B) ?_ ?_ ?_ ?_ ?_) ?_; (· rfl); (· rfl); (· rfl); (· exact wP); (· exact hB); (· simp [h2])))
        refine wk ?_
        refine CC.draw [(0, 0), (1, 1), (2, 0), (3, 3), (4, 0)] mixed rfl (by kernel_rfl) (by kernel_rfl) [bk rk 36 (hc (ofBody D))] ?_
        refine hwk ?_
        (apply CH.read; (· rfl); (· apply PS.loadG (vs := hc (ofBody D)); (· rfl); (· rfl); (· exact CellsAt.all (by first | exact pickA | exact updA)); (· rfl)); (· exact selA))
        refine hwk ?_
        refine CH.tail rfl rfl fun K hK => ?_
        (refine CX.storeB (vs := hc (ofBody D)) ?_ ?_ ?_ ?_; (· rfl); (· rfl); (· exact one_all rfl))
        (refine CX.nil ?_; refine CQ.thenK ?_; apply hK; clear hK K)
        refine hwk ?_
        refine wk ?_
        (apply CQ.end3; (· rfl); (· exact .tmp rfl); (· exact .cells inferInstance rfl (CellsAt.all (by first | exact pickA | exact updA)) rfl); (· exact .tmp rfl))
        · exact ⟨by rw [e] <;> rfl, rfl⟩
        · exact selA
      · have e : getH B = (0, HdM.z, 5) := by rw [hH, if_pos (.inr h2)]
        refine wk ?_
        ((apply CX.ps; (· apply PS.loadG (vs := cb (P)); (· rfl); (· rfl); (· exact CellsAt.all (by first | exact pickA | exact updA)); (· exact wP.len))))
        ((apply CX.ps; (· apply PS.loadG (vs := cb (B)); (· rfl); (· rfl); (· exact CellsAt.all (by first | exact pickA | exact updA)); (· exact hB.len))))
        (apply CX.ps; (· refine PS.toT (PS.neqB (a := P) (b := B) ?_ ?_ ?_ ?_ ?_) ?_; (· rfl); (· rfl); (· rfl); (· exact wP); (· exact hB); (· exact h2)))
        refine wk ?_
        (apply CX.ps; (· apply PS.build (vs := []) (out := hc HdM.z); (· rfl); (· rfl); (· rfl)))
        refine wk ?_
        (refine CX.storeB (vs := hc HdM.z) ?_ ?_ ?_ ?_; (· rfl); (· rfl); (· exact one_all rfl))
        refine wk ?_
        (apply CQ.end3; (· rfl); (· exact .tmp rfl); (· exact .cells inferInstance rfl (CellsAt.all (by first | exact pickA | exact updA)) rfl); (· exact .tmp rfl))
        · exact ⟨by rw [e] <;> rfl, rfl⟩
        · exact selA
    · have e : getH B = (0, HdM.z, 5) := by rw [hH, if_pos (.inl h1)]
      refine wk ?_
      (apply CX.ps; (· apply PS.build (vs := []) (out := hc HdM.z); (· rfl); (· rfl); (· rfl)))
      refine wk ?_
      (refine CX.storeB (vs := hc HdM.z) ?_ ?_ ?_ ?_; (· rfl); (· rfl); (· exact one_all rfl))
      refine wk ?_
      (apply CQ.end3; (· rfl); (· exact .tmp rfl); (· exact .cells inferInstance rfl (CellsAt.all (by first | exact pickA | exact updA)) rfl); (· exact .tmp rfl))
      · exact ⟨by rw [e] <;> rfl, rfl⟩
      · exact selA
  · have e : getH B = (0, HdM.z, (getM B).2.2) := by unfold getH; rw [if_pos he]
    generalize (getM B).2.2 = er at he e
    refine wk ?_
    (apply CX.ps; (· apply PS.build (vs := []) (out := hc HdM.z); (· rfl); (· rfl); (· rfl)))
    refine wk ?_
    (refine CX.storeB (vs := hc HdM.z) ?_ ?_ ?_ ?_; (· rfl); (· rfl); (· exact one_all rfl))
    refine wk ?_
    (apply CQ.end3; (· rfl); (· exact .tmp rfl); (· exact .cells inferInstance rfl (CellsAt.all (by first | exact pickA | exact updA)) rfl); (· exact .tmp rfl))
    · exact ⟨by rw [e] <;> rfl, rfl⟩
    · exact selA
theorem r6newest_c (A B : Blk) (hA : WB A) (hB : WB B) : Ctr Tryz.prog 78 [.agg (cb A).toArray, .agg (cb B).toArray] [] (fun _ => True)
    (fun v M => v = .tuple #[.int .u64 ((newH A B).1 : Int), .agg (hc (newH A B).2.1).toArray, .int .i64 (newH A B).2.2] ∧ M = []) := by
  refine Ctr.intro Tryz.func78 rfl Tryz.ntmps78 rfl fun x w hp => ?_
  refine wk ?_
  (refine CX.boxA ?_; intro r)
  refine wk ?_
  (refine CX.boxA ?_; intro s)
  refine wk ?_
  refine CX.allocZ (hc HdM.z) ?_ (hv := rfl)
  intro ro
  refine wk ?_
  ((apply CX.ps; (· apply PS.loadG (vs := cb (A)); (· rfl); (· rfl); (· exact CellsAt.all (by first | exact pickA | exact updA)); (· exact hA.len))))
  refine CX.callA (r6get_c A hA) ?_
  rintro _ _ ⟨rfl, rfl⟩
  refine wk ?_
  refine CX.allocZ (hc HdM.z) ?_ (hv := rfl)
  intro ra
  refine wk ?_
  (refine CX.storeB (vs := hc (getH A).2.1) ?_ ?_ ?_ ?_; (· rfl); (· rfl); (· exact one_all rfl))
  refine wk ?_
  ((apply CX.ps; (· apply PS.loadG (vs := cb (B)); (· rfl); (· rfl); (· exact CellsAt.all (by first | exact pickA | exact updA)); (· exact hB.len))))
  refine CX.callA (r6get_c B hB) ?_
  rintro _ _ ⟨rfl, rfl⟩
  refine wk ?_
  refine CX.allocZ (hc HdM.z) ?_ (hv := rfl)
  intro rb
  refine wk ?_
  (refine CX.storeB (vs := hc (getH B).2.1) ?_ ?_ ?_ ?_; (· rfl); (· rfl); (· exact one_all rfl))
  have eN := newH_eq A B
  generalize newH A B = N at eN
  generalize (getH A).2.2 = ea at eN
  generalize (getH B).2.2 = eb at eN
  generalize (getH A).1 = na at eN
  generalize (getH B).1 = nb at eN
  generalize (getH A).2.1 = ka at eN
  generalize (getH B).2.1 = kb at eN
  by_cases h1 : ea ≠ 0 ∧ eb ≠ 0
  · have e : N = (0, HdM.z, 7) := by rw [eN, if_pos h1]
    obtain ⟨h2, h3⟩ := h1
    refine wk ?_
    (apply CX.ps; (· apply PS.build (vs := []) (out := hc HdM.z); (· rfl); (· rfl); (· rfl)))
    refine wk ?_
    (refine CX.storeB (vs := hc HdM.z) ?_ ?_ ?_ ?_; (· rfl); (· rfl); (· exact one_all rfl))
    refine wk ?_
    (apply CQ.end3; (· rfl); (· exact .tmp rfl); (· exact .cells inferInstance rfl (CellsAt.all (by first | exact pickA | exact updA)) rfl); (· exact .tmp rfl))
    · exact ⟨by rw [e] <;> rfl, rfl⟩
    · exact selA
  · rw [if_neg h1] at eN
    have h1' : ea = 0 ∨ ea ≠ 0 ∧ eb = 0 := by omega
    by_cases h4 : na < nb
    · have e : N = (nb, kb, 0) := by rw [eN, if_pos h4]
      rcases h1' with h2 | ⟨h2, h3⟩
      · refine wk ?_
        refine CC.draw [(0, 0), (1, 1), (2, 0), (3, 3), (4, 0)] mixed rfl (by kernel_rfl) (by kernel_rfl) [bk rb 36 (hc kb)] ?_
        refine hwk ?_
        (apply CH.read; (· rfl); (· apply PS.loadG (vs := hc kb); (· rfl); (· rfl); (· exact CellsAt.all (by first | exact pickA | exact updA)); (· rfl)); (· exact selA))
        refine hwk ?_
        refine CH.tail rfl rfl fun K hK => ?_
        (refine CX.storeB (vs := hc kb) ?_ ?_ ?_ ?_; (· rfl); (· rfl); (· exact one_all rfl))
        (refine CX.nil ?_; refine CQ.thenK ?_; apply hK; clear hK K)
        refine hwk ?_
        refine wk ?_
        (apply CQ.end3; (· rfl); (· exact .tmp rfl); (· exact .cells inferInstance rfl (CellsAt.all (by first | exact pickA | exact updA)) rfl); (· exact .tmp rfl))
        · exact ⟨by rw [e] <;> rfl, rfl⟩
        · exact selA
      · refine wk ?_
        refine CC.draw [(0, 0), (1, 1), (2, 0), (3, 3), (4, 0)] mixed rfl (by kernel_rfl) (by kernel_rfl) [bk rb 36 (hc kb)] ?_
        refine hwk ?_
        (apply CH.read; (· rfl); (· apply PS.loadG (vs := hc kb); (· rfl); (· rfl); (· exact CellsAt.all (by first | exact pickA | exact updA)); (· rfl)); (· exact selA))
        refine hwk ?_
        refine CH.tail rfl rfl fun K hK => ?_
        (refine CX.storeB (vs := hc kb) ?_ ?_ ?_ ?_; (· rfl); (· rfl); (· exact one_all rfl))
        (refine CX.nil ?_; refine CQ.thenK ?_; apply hK; clear hK K)
        refine hwk ?_
        refine wk ?_
        (apply CQ.end3; (· rfl); (· exact .tmp rfl); (· exact .cells inferInstance rfl (CellsAt.all (by first | exact pickA | exact updA)) rfl); (· exact .tmp rfl))
        · exact ⟨by rw [e] <;> rfl, rfl⟩
        · exact selA
    · have e : N = (na, ka, 0) := by rw [eN, if_neg h4]
      rcases h1' with h2 | ⟨h2, h3⟩
      · refine wk ?_
        refine CC.draw [(0, 0), (1, 1), (2, 0), (3, 3), (4, 0)] mixed rfl (by kernel_rfl) (by kernel_rfl) [bk ra 36 (hc ka)] ?_
        refine hwk ?_
        (apply CH.read; (· rfl); (· apply PS.loadG (vs := hc ka); (· rfl); (· rfl); (· exact CellsAt.all (by first | exact pickA | exact updA)); (· rfl)); (· exact selA))
        refine hwk ?_
        refine CH.tail rfl rfl fun K hK => ?_
        (refine CX.storeB (vs := hc ka) ?_ ?_ ?_ ?_; (· rfl); (· rfl); (· exact one_all rfl))
        (refine CX.nil ?_; refine CQ.thenK ?_; apply hK; clear hK K)
        refine hwk ?_
        refine wk ?_
        (apply CQ.end3; (· rfl); (· exact .tmp rfl); (· exact .cells inferInstance rfl (CellsAt.all (by first | exact pickA | exact updA)) rfl); (· exact .tmp rfl))
        · exact ⟨by rw [e] <;> rfl, rfl⟩
        · exact selA
      · refine wk ?_
        refine CC.draw [(0, 0), (1, 1), (2, 0), (3, 3), (4, 0)] mixed rfl (by kernel_rfl) (by kernel_rfl) [bk ra 36 (hc ka)] ?_
        refine hwk ?_
        (apply CH.read; (· rfl); (· apply PS.loadG (vs := hc ka); (· rfl); (· rfl); (· exact CellsAt.all (by first | exact pickA | exact updA)); (· rfl)); (· exact selA))
        refine hwk ?_
        refine CH.tail rfl rfl fun K hK => ?_
        (refine CX.storeB (vs := hc ka) ?_ ?_ ?_ ?_; (· rfl); (· rfl); (· exact one_all rfl))
        (refine CX.nil ?_; refine CQ.thenK ?_; apply hK; clear hK K)
        refine hwk ?_
        refine wk ?_
        (apply CQ.end3; (· rfl); (· exact .tmp rfl); (· exact .cells inferInstance rfl (CellsAt.all (by first | exact pickA | exact updA)) rfl); (· exact .tmp rfl))
        · exact ⟨by rw [e] <;> rfl, rfl⟩
        · exact selA
end Go.Proofs.YtlckhaodecdbbaaGreat
/-! The document's journal (ref 07): its small functions, in the program; and a row that is read (ref 01). -/
namespace Go.Proofs.YtlckhaodecdbbaaGreat
open Go.Cx
attribute [local irreducible] Go.Cx.CX Go.Cx.CC Go.Cx.CQ Go.Cx.PS Go.Cx.Ctr Go.Cx.CH
set_option maxRecDepth 10000
theorem r1getrow_c (B : Blk) (hB : B.length ≤ 70368744177664) (a : Option Addr) (cap : Nat) (hcap : B.length ≤ cap) (at_ most : Nat) (hat : at_ ≤ 70368744177664) (hm : most ≤ 1073741824) : Ctr Tryz.prog 80 [.slice a B.length cap, .int .i64 (at_ : Int), .int .i64 (most : Int)] [] (fun x => rdx a B.length (cb B) x)
    (GotRow B at_ most) := by
  unfold GotRow
  refine Ctr.intro Tryz.func80 rfl Tryz.ntmps80 rfl fun x w hp => ?_
  refine wk ?_
  refine CX.callA (rget_c B a cap (at_ : Int) 4 (by omega) (by omega) (by omega)) ?_ (hpre := by exact rdx_ex (by first | exact pickA | exact updA) hp)
  rw [getN_four]
  by_cases h1 : B.length < at_
  · have e : Cx.rowAt B at_ most = ([], 0, 2) := by unfold Cx.rowAt; rw [if_pos h1]
    rw [if_pos h1, e]
    rintro _ _ ⟨rfl, rfl⟩
    refine wk ?_
    refine CQ.ownNil 5 1 ?_
    (apply CQ.end3; (· rfl); (· exact .tmp rfl); (· exact .tmp rfl); (· exact .tmp rfl))
    · exact ⟨none, 0, rfl, rfl⟩
    · exact selA
  by_cases h2 : B.length - at_ < 4
  · have e : Cx.rowAt B at_ most = ([], 0, 4) := by unfold Cx.rowAt; rw [if_neg h1, if_pos h2]
    rw [if_neg h1, if_pos h2, e]
    rintro _ _ ⟨rfl, rfl⟩
    refine wk ?_
    refine CQ.ownNil 5 1 ?_
    (apply CQ.end3; (· rfl); (· exact .tmp rfl); (· exact .tmp rfl); (· exact .tmp rfl))
    · exact ⟨none, 0, rfl, rfl⟩
    · exact selA
  have hn32 := ofLe_lt ((B.drop at_).take 4)
  rw [show ((B.drop at_).take 4).length = 4 by simp; omega] at hn32
  have hrow : Cx.rowAt B at_ most = if most < ofLe ((B.drop at_).take 4) then ([], 0, 3) else if B.length - (at_ + 4) < ofLe ((B.drop at_).take 4) then ([], 0, 4)
    else ((B.drop (at_ + 4)).take (ofLe ((B.drop at_).take 4)), at_ + 4 + ofLe ((B.drop at_).take 4), 0) := by
    unfold Cx.rowAt; rw [if_neg h1, if_neg h2]
  rw [if_neg h1, if_neg h2]
  generalize ofLe ((B.drop at_).take 4) = k at hn32 hrow
  rintro _ _ ⟨rfl, rfl⟩
  by_cases h3 : most < k
  · rw [hrow, if_pos h3]
    refine wk ?_
    refine CQ.ownNil 5 1 ?_
    (apply CQ.end3; (· rfl); (· exact .tmp rfl); (· exact .tmp rfl); (· exact .tmp rfl))
    · exact ⟨none, 0, rfl, rfl⟩
    · exact selA
  obtain ⟨g, off, rfl⟩ := rdx_some hp (by omega)
  by_cases h4 : B.length - (at_ + 4) < k
  · rw [hrow, if_neg h3, if_pos h4]
    refine wk ?_
    refine CQ.ownNil 5 1 ?_
    (apply CQ.end3; (· rfl); (· exact .tmp rfl); (· exact .tmp rfl); (· exact .tmp rfl))
    · exact ⟨none, 0, rfl, rfl⟩
    · exact selA
  · rw [hrow, if_neg h3, if_neg h4]
    have hlen : ((B.drop (at_ + 4)).take k).length = k := by simp; omega
    refine CX.ownNil 5 1 ?_
    refine wk ?_
    refine CX.ps (PS.slice (l := at_ + 4) (h := at_ + 4 + k) rfl rfl rfl rfl (.inr ⟨_, eqI (by simp)⟩) (.inr ⟨_, eqI (by simp)⟩) (by omega) (by omega)) ?_
    have hr : ∀ y, Sep [own 5 1 none 0 0 [], exact x] y → rdx (cutAt (some ⟨g, off, none⟩) (at_ + 4) cap 1) (at_ + 4 + k - (at_ + 4)) (cb ((B.drop (at_ + 4)).take k)) y := fun y hy => by
      have := rdx_cut2 (l := at_ + 4) (m := at_ + 4 + k) (cap := cap) (rdx_ex (show Pick (exact x) [own 5 1 none 0 0 [], exact x] _ from by first | exact pickA | exact updA) hp y hy) rfl (by omega) (by omega) (by omega)
      rw [Nat.add_sub_cancel_left] at this ⊢
      exact this
    refine CX.append (m := at_ + 4 + k - (at_ + 4)) (news := cb ((B.drop (at_ + 4)).take k)) rfl rfl rfl (by first | exact pickA | exact updA) (rdS_of hr (by omega)) (by omega) (fun h => by unfold cutAt at h; split at h <;> cases h) ?_
    intro a' c'
    rw [List.nil_append, Nat.zero_add, Nat.add_sub_cancel_left]
    refine wk ?_
    (apply CQ.end3; (· rfl); (· exact .tmp rfl); (· exact .tmp rfl); (· exact .tmp rfl))
    · exact ⟨a', c', by rw [hlen]; simp, by rw [hlen]⟩
    · exact selA
def rjA (q r : Nat) : Assn := bk q 99 [.pointer (some ⟨r, 0, none⟩)]
theorem r7bank_c (q r : Nat) (D : DS) {N : Nat} (h : D.wf N) : Ctr Tryz.prog 63 [.pointer (some ⟨q, 0, none⟩)] [rjA q r, rdisk r D] (fun _ => True) (fun v M => v = .int .i64 (bankM D : Int) ∧ M = [rjA q r, rdisk r D]) := by
  have h1 := h.lo
  have h2 := h.hi
  unfold rjA
  refine Ctr.intro Tryz.func63 rfl Tryz.ntmps63 rfl fun x w hp => ?_
  refine wk ?_
  refine CX.callA (rblocks_c r D) ?_
  rintro _ _ ⟨rfl, rfl⟩
  refine wk ?_
  refine CX.ps (PS.quo rfl rfl rfl (by decide) (bank_int h1 h2)) ?_
  refine wk ?_
  ((apply CQ.end1; (· rfl); (· exact .tmp rfl)); (· exact ⟨rfl, rfl⟩); (· exact selA))
theorem r7first_c (q r : Nat) (D : DS) (b : Nat) (hb : b < 256) {N : Nat} (h : D.wf N) : Ctr Tryz.prog 69 [.pointer (some ⟨q, 0, none⟩), .int .u8 (b : Int)] [rjA q r, rdisk r D] (fun _ => True) (fun v M => v = .int .i64 (firstM D b : Int) ∧ M = [rjA q r, rdisk r D]) := by
  have h2 := h.hi
  have hbk : bankM D ≤ 2048 := by unfold bankM; omega
  have hmul : b * bankM D ≤ 256 * 2048 := Nat.mul_le_mul (by omega) hbk
  refine Ctr.intro Tryz.func69 rfl Tryz.ntmps69 rfl fun x w hp => ?_
  refine wk ?_
  refine CX.callA (r7bank_c q r D h) ?_
  rintro _ _ ⟨rfl, rfl⟩
  refine CX.ps (PS.mul (z := ((b * bankM D : Nat) : Int)) rfl rfl rfl (by rw [← Int.natCast_mul]; exact wr_i64 (by omega) (by omega))) ?_
  unfold firstM
  generalize b * bankM D = z at hmul
  refine wk ?_
  ((apply CQ.end1; (· rfl); (· exact .tmp rfl)); (· exact ⟨by congr 1, rfl⟩); (· exact selA))
theorem r7read_c (q r : Nat) (D : DS) (n : Int) {N : Nat} (h : D.wf N) (hN : N < 1000000) : Ctr Tryz.prog 79 [.pointer (some ⟨q, 0, none⟩), .int .i64 n] [rjA q r, rdisk r D] (fun _ => True) (fun v M => v = .agg (cb (D.read n).1).toArray ∧ M = [rjA q r, rdisk r D]) := by
  have hw := read_WB h n
  unfold rjA
  refine Ctr.intro Tryz.func79 rfl Tryz.ntmps79 rfl fun x w hp => ?_
  refine wk ?_
  refine CX.allocZ (cb zblk) ?_
  intro q4
  refine wk ?_
  refine CX.callA (rread_c r D n h hN) ?_
  rintro _ _ ⟨rfl, rfl⟩
  generalize (D.read n).1 = X at *
  refine wk ?_
  refine CX.allocZ (cb zblk) ?_
  intro q5
  (apply CX.storeAll; (· rfl); (· rfl); (· rfl); (· first | exact pickA | exact updA); (· exact hw.len); (· exact WB_z.len); (· exact one_cb _))
  refine wk ?_
  (apply CX.ps; (· apply PS.loadG (vs := cb X); (· rfl); (· rfl); (· exact CellsAt.all (by first | exact pickA | exact updA)); (· exact hw.len)))
  (apply CX.storeAll; (· rfl); (· rfl); (· rfl); (· first | exact pickA | exact updA); (· exact hw.len); (· exact WB_z.len); (· exact one_cb _))
  refine wk ?_
  (apply CQ.end1; (· rfl); (· exact .cells inferInstance rfl (CellsAt.all (by first | exact pickA | exact updA)) (hw.len)))
  · exact ⟨rfl, rfl⟩
  · exact selA
def newR (D : DS) : Nat × HdM × Int := newH (D.read 0).1 (D.read 1).1
theorem r7newest_c (q r : Nat) (D : DS) {N : Nat} (h : D.wf N) (hN : N < 1000000) : Ctr Tryz.prog 59 [.pointer (some ⟨q, 0, none⟩)] [rjA q r, rdisk r D] (fun _ => True)
    (fun v M => v = .tuple #[.int .u64 ((newR D).1 : Int), .agg (hc (newR D).2.1).toArray, .int .i64 (newR D).2.2] ∧ M = [rjA q r, rdisk r D]) := by
  have w0 := read_WB h 0
  have w1 := read_WB h 1
  unfold newR
  refine Ctr.intro Tryz.func59 rfl Tryz.ntmps59 rfl fun x w hp => ?_
  refine wk ?_
  refine CX.allocZ (hc HdM.z) ?_ (hv := rfl)
  intro q3
  refine wk ?_
  refine CX.callA (r7read_c q r D 0 h hN) ?_
  rintro _ _ ⟨rfl, rfl⟩
  refine wk ?_
  refine CX.callA (r7read_c q r D 1 h hN) ?_
  rintro _ _ ⟨rfl, rfl⟩
  refine CX.callA (r6newest_c _ _ w0 w1) ?_
  generalize newH (D.read 0).1 (D.read 1).1 = u at *
  rintro _ _ ⟨rfl, rfl⟩
  refine wk ?_
  (refine CX.storeB (vs := hc u.2.1) ?_ ?_ ?_ ?_; (· rfl); (· rfl); (· exact one_all rfl))
  refine wk ?_
  (apply CQ.end3; (· rfl); (· exact .tmp rfl); (· exact .cells inferInstance rfl (CellsAt.all (by first | exact pickA | exact updA)) rfl); (· exact .tmp rfl))
  · exact ⟨rfl, rfl⟩
  · exact selA
end Go.Proofs.YtlckhaodecdbbaaGreat
/-! The journal's methods (Append, Replace, Batches, Room, Head), in the program. -/
namespace Go.Proofs.YtlckhaodecdbbaaGreat
open Go.Cx
attribute [local irreducible] Go.Cx.CX Go.Cx.CC Go.Cx.CQ Go.Cx.PS Go.Cx.Ctr Go.Cx.CH
set_option maxRecDepth 10000
/-- No journal, or one of no disk. -/
def njres (z : Option Nat) : List Assn := match z with | none => [] | some p => [bk p 91 [.pointer none, .int .u64 0, .int .u8 0, .int .u32 0, .int .u32 0]]
theorem jnoneN_c (z : Option Nat) : Ctr Tryz.prog 61 [nptr z] (njres z) (fun _ => True) (fun v M => v = .bool true ∧ M = njres z) := by
  cases z with
  | none => exact jnone0_c
  | some p => exact jnoneZ_c p _
theorem jroom_c (p d : Nat) (J : JM) (hbk : J.h.blocks < 4294967296) (D : DS) {N : Nat} (h : D.wf N) : Ctr Tryz.prog 32 [.pointer (some ⟨p, 0, none⟩)] [bk p 91 (jrc d J), disk d D] (fun _ => True) (fun v M => v = .int .i64 ((bankM D : Int) - (J.h.blocks : Int)) ∧ M = [bk p 91 (jrc d J), disk d D]) := by
  have hbank : bankM D ≤ 2048 := by have := h.hi; unfold bankM; omega
  refine Ctr.intro Tryz.func32 rfl Tryz.ntmps32 rfl fun x w hp => ?_
  refine wk ?_
  refine CX.callA (jnone_c p d J) ?_
  rintro _ _ ⟨rfl, rfl⟩
  refine wk ?_
  refine CC.draw [(0, 0), (2, 0), (3, 0), (4, 0), (5, 0), (6, 1), (7, 0), (1, 2), (8, 0), (9, 0)] mixed rfl (by kernel_rfl) (by kernel_rfl) [bk p 91 (jrc d J)] ?_
  refine hwk ?_
  refine CH.chain rfl fun K hK => ?_
  refine CX.callA (jbank_c p d J D h) ?_
  rintro _ _ ⟨rfl, rfl⟩
  (refine CX.nil ?_; refine CQ.thenK ?_; apply hK; (· exact selA); clear hK K)
  refine hwk ?_
  refine wk ?_
  ((apply CQ.end1; (· rfl); (· exact .tmp rfl)); (· exact ⟨rfl, rfl⟩); (· exact selA))
theorem jroomN_c (z : Option Nat) : Ctr Tryz.prog 32 [nptr z] (njres z) (fun _ => True) (fun v M => v = .int .i64 0 ∧ M = njres z) := by
  cases z with
  | none =>
    simp only [njres, nptr, Option.map]
    refine Ctr.intro Tryz.func32 rfl Tryz.ntmps32 rfl fun x w hp => ?_
    refine wk ?_
    refine CX.callA (jnone0_c) ?_
    rintro _ _ ⟨rfl, rfl⟩
    refine wk ?_
    ((apply CQ.end1; (· rfl); (· exact .tmp rfl)); (· exact ⟨rfl, rfl⟩); (· exact selA))
  | some p =>
    simp only [njres, nptr, Option.map]
    refine Ctr.intro Tryz.func32 rfl Tryz.ntmps32 rfl fun x w hp => ?_
    refine wk ?_
    refine CX.callA (jnoneZ_c p _) ?_
    rintro _ _ ⟨rfl, rfl⟩
    refine wk ?_
    ((apply CQ.end1; (· rfl); (· exact .tmp rfl)); (· exact ⟨rfl, rfl⟩); (· exact selA))
theorem jhead_c (p d : Nat) (J : JM) : Ctr Tryz.prog 34 [.pointer (some ⟨p, 0, none⟩)] [bk p 91 (jrc d J)] (fun _ => True) (fun v M => v = .agg (hc J.h).toArray ∧ M = [bk p 91 (jrc d J)]) := by
  refine Ctr.intro Tryz.func34 rfl Tryz.ntmps34 rfl fun x w hp => ?_
  refine wk ?_
  refine CX.allocZ (hc HdM.z) ?_ (hv := rfl)
  intro q
  refine wk ?_
  refine CX.callA (jnone_c p d J) ?_
  rintro _ _ ⟨rfl, rfl⟩
  refine wk ?_
  (apply CX.ps; (· apply PS.loadG (vs := hc J.h); (· rfl); (· rfl); (· exact CellsAt.pick (by first | exact pickA | exact updA) rfl); (· rfl)))
  (refine CX.storeB (vs := hc J.h) ?_ ?_ ?_ ?_; (· rfl); (· rfl); (· exact one_all rfl))
  refine wk ?_
  (apply CQ.end1; (· rfl); (· exact .cells inferInstance rfl (CellsAt.all (by first | exact pickA | exact updA)) (rfl)))
  · exact ⟨rfl, rfl⟩
  · exact selA
theorem jheadN_c (z : Option Nat) : Ctr Tryz.prog 34 [nptr z] (njres z) (fun _ => True) (fun v M => v = .agg (hc HdM.z).toArray ∧ M = njres z) := by
  cases z with
  | none =>
    simp only [njres, nptr, Option.map]
    refine Ctr.intro Tryz.func34 rfl Tryz.ntmps34 rfl fun x w hp => ?_
    refine wk ?_
    refine CX.allocZ (hc HdM.z) ?_ (hv := rfl)
    intro q
    refine wk ?_
    refine CX.callA (jnone0_c) ?_
    rintro _ _ ⟨rfl, rfl⟩
    refine wk ?_
    (apply CX.ps; (· apply PS.build (vs := []) (out := hc HdM.z); (· rfl); (· rfl); (· rfl)))
    (refine CX.storeB (vs := hc HdM.z) ?_ ?_ ?_ ?_; (· rfl); (· rfl); (· exact one_all rfl))
    refine wk ?_
    (apply CQ.end1; (· rfl); (· exact .cells inferInstance rfl (CellsAt.all (by first | exact pickA | exact updA)) (rfl)))
    · exact ⟨rfl, rfl⟩
    · exact selA
  | some p =>
    simp only [njres, nptr, Option.map]
    refine Ctr.intro Tryz.func34 rfl Tryz.ntmps34 rfl fun x w hp => ?_
    refine wk ?_
    refine CX.allocZ (hc HdM.z) ?_ (hv := rfl)
    intro q
    refine wk ?_
    refine CX.callA (jnoneZ_c p _) ?_
    rintro _ _ ⟨rfl, rfl⟩
    refine wk ?_
    (apply CX.ps; (· apply PS.build (vs := []) (out := hc HdM.z); (· rfl); (· rfl); (· rfl)))
    (refine CX.storeB (vs := hc HdM.z) ?_ ?_ ?_ ?_; (· rfl); (· rfl); (· exact one_all rfl))
    refine wk ?_
    (apply CQ.end1; (· rfl); (· exact .cells inferInstance rfl (CellsAt.all (by first | exact pickA | exact updA)) (rfl)))
    · exact ⟨rfl, rfl⟩
    · exact selA
theorem jbat_c (p d : Nat) (J : JM) (hb : J.h.bank < 256) (hbt : J.h.batches < 4294967296) (hbk : J.h.blocks < 4294967296) (D : DS) {N : Nat} (h : D.wf N) (hN : N < 1000000) : Ctr Tryz.prog 30 [.pointer (some ⟨p, 0, none⟩)] [bk p 91 (jrc d J), disk d D] (fun _ => True)
    (fun v M => ∃ a c l, l.map SlB.b = (readM J D).1 ∧ v = .slice a l.length c ∧ M = [bk p 91 (jrc d J), disk d D, bsA a l] ∧ (a = none → l.length = 0 ∧ c = 0) ∧ l.length ≤ c) := by
  refine Ctr.intro Tryz.func30 rfl Tryz.ntmps30 rfl fun x w hp => ?_
  refine wk ?_
  refine CX.callA (jnone_c p d J) ?_
  rintro _ _ ⟨rfl, rfl⟩
  refine wk ?_
  refine CX.callA (jread_c p d J hb hbt hbk D h hN) ?_
  rintro _ _ ⟨a, c, l, hl, rfl, rfl, hn, hc'⟩
  refine wk ?_
  (apply CQ.end1; (· rfl); (· exact .tmp rfl))
  · exact ⟨a, c, l, hl, rfl, rfl, hn, hc'⟩
  · exact selA
theorem jbatN_c (z : Option Nat) : Ctr Tryz.prog 30 [nptr z] (njres z) (fun _ => True) (fun v M => v = .slice none 0 0 ∧ M = njres z) := by
  cases z with
  | none =>
    simp only [njres, nptr, Option.map]
    refine Ctr.intro Tryz.func30 rfl Tryz.ntmps30 rfl fun x w hp => ?_
    refine wk ?_
    refine CX.callA (jnone0_c) ?_
    rintro _ _ ⟨rfl, rfl⟩
    refine wk ?_
    ((apply CQ.end1; (· rfl); (· exact .tmp rfl)); (· exact ⟨rfl, rfl⟩); (· exact selA))
  | some p =>
    simp only [njres, nptr, Option.map]
    refine Ctr.intro Tryz.func30 rfl Tryz.ntmps30 rfl fun x w hp => ?_
    refine wk ?_
    refine CX.callA (jnoneZ_c p _) ?_
    rintro _ _ ⟨rfl, rfl⟩
    refine wk ?_
    ((apply CQ.end1; (· rfl); (· exact .tmp rfl)); (· exact ⟨rfl, rfl⟩); (· exact selA))
theorem jasked_c (p d : Nat) (J : JM) (D : DS) (b : Blk) (hb : b.length ≤ 9223372036854775806) (a : Option Addr) (cap : Nat) (hn : a = none → b.length = 0 ∧ cap = 0) : Ctr Tryz.prog 65 [.pointer (some ⟨p, 0, none⟩), .slice a b.length cap] [bk p 91 (jrc d J), disk d D] (fun x => rdx a b.length (cb b) x)
    (fun v M => ∃ a' c', v = .tuple #[.slice a' (askedM D b).1.length c', .int .i64 (askedM D b).2] ∧ M = [bk p 91 (jrc d J), disk d D, own 32 128 a' (askedM D b).1.length c' (flat (askedM D b).1)]) := by
  refine Ctr.intro Tryz.func65 rfl Tryz.ntmps65 rfl fun x w hp => ?_
  refine wk ?_
  refine CX.callA (jnone_c p d J) ?_
  rintro _ _ ⟨rfl, rfl⟩
  by_cases h1 : 1048576 < b.length
  · rw [show askedM D b = ([], 3) by unfold askedM; rw [if_pos h1]]
    refine wk ?_
    refine CQ.ownNil 32 128 ?_
    (apply CQ.end2; (· rfl); (· exact .tmp rfl); (· exact .tmp rfl))
    · exact ⟨none, 0, rfl, rfl⟩
    · exact selA
  cases hd : D.dark with
  | true =>
    rw [show askedM D b = ([], 9) by unfold askedM; rw [if_neg h1, if_pos hd]]
    refine wk ?_
    refine CX.callA (dark_c d D) ?_
    rw [hd]
    rintro _ _ ⟨rfl, rfl⟩
    refine wk ?_
    refine CQ.ownNil 32 128 ?_
    (apply CQ.end2; (· rfl); (· exact .tmp rfl); (· exact .tmp rfl))
    · exact ⟨none, 0, rfl, rfl⟩
    · exact selA
  | false =>
    rw [show askedM D b = (cutB b, 0) by unfold askedM; rw [if_neg h1, if_neg (by simp [hd])]]
    refine wk ?_
    refine CX.callA (dark_c d D) ?_
    rw [hd]
    rintro _ _ ⟨rfl, rfl⟩
    refine wk ?_
    refine CX.callA (cut_c b (by omega) a cap hn) ?_ (hpre := by exact rdx_ex (by first | exact pickA | exact updA) hp)
    rintro _ _ ⟨a', c', rfl, rfl⟩
    refine wk ?_
    (apply CQ.end2; (· rfl); (· exact .tmp rfl); (· exact .tmp rfl))
    · exact ⟨a', c', rfl, rfl⟩
    · exact selA
theorem jaskedN_c (z : Option Nat) (a : Option Addr) (l c : Nat) : Ctr Tryz.prog 65 [nptr z, .slice a l c] (njres z) (fun _ => True) (fun v M => v = .tuple #[.slice none 0 0, .int .i64 1] ∧ M = njres z) := by
  cases z with
  | none =>
    simp only [njres, nptr, Option.map]
    refine Ctr.intro Tryz.func65 rfl Tryz.ntmps65 rfl fun x w hp => ?_
    refine wk ?_
    refine CX.callA (jnone0_c) ?_
    rintro _ _ ⟨rfl, rfl⟩
    refine wk ?_
    ((apply CQ.end2; (· rfl); (· exact .tmp rfl); (· exact .tmp rfl)); (· exact ⟨rfl, rfl⟩); (· exact selA))
  | some p =>
    simp only [njres, nptr, Option.map]
    refine Ctr.intro Tryz.func65 rfl Tryz.ntmps65 rfl fun x w hp => ?_
    refine wk ?_
    refine CX.callA (jnoneZ_c p _) ?_
    rintro _ _ ⟨rfl, rfl⟩
    refine wk ?_
    ((apply CQ.end2; (· rfl); (· exact .tmp rfl); (· exact .tmp rfl)); (· exact ⟨rfl, rfl⟩); (· exact selA))
theorem jappN_c (z : Option Nat) (a : Option Addr) (l c : Nat) : Ctr Tryz.prog 38 [nptr z, .slice a l c] (njres z) (fun _ => True) (fun v M => v = .int .i64 1 ∧ M = njres z) := by
  cases z with
  | none =>
    simp only [njres, nptr, Option.map]
    refine Ctr.intro Tryz.func38 rfl Tryz.ntmps38 rfl fun x w hp => ?_
    refine wk ?_
    (have cc := jaskedN_c none a l c; simp only [njres, nptr, Option.map] at cc; refine CX.callA cc ?_; clear cc; rintro _ _ ⟨rfl, rfl⟩)
    refine wk ?_
    ((apply CQ.end1; (· rfl); (· exact .tmp rfl)); (· exact ⟨rfl, rfl⟩); (· exact selA))
  | some p =>
    simp only [njres, nptr, Option.map]
    refine Ctr.intro Tryz.func38 rfl Tryz.ntmps38 rfl fun x w hp => ?_
    refine wk ?_
    (have cc := jaskedN_c (some p) a l c; simp only [njres, nptr, Option.map] at cc; refine CX.callA cc ?_; clear cc; rintro _ _ ⟨rfl, rfl⟩)
    refine wk ?_
    ((apply CQ.end1; (· rfl); (· exact .tmp rfl)); (· exact ⟨rfl, rfl⟩); (· exact selA))
theorem jrepN_c (z : Option Nat) (a : Option Addr) (l c : Nat) : Ctr Tryz.prog 39 [nptr z, .slice a l c] (njres z) (fun _ => True) (fun v M => v = .int .i64 1 ∧ M = njres z) := by
  cases z with
  | none =>
    simp only [njres, nptr, Option.map]
    refine Ctr.intro Tryz.func39 rfl Tryz.ntmps39 rfl fun x w hp => ?_
    refine wk ?_
    (have cc := jaskedN_c none a l c; simp only [njres, nptr, Option.map] at cc; refine CX.callA cc ?_; clear cc; rintro _ _ ⟨rfl, rfl⟩)
    refine wk ?_
    ((apply CQ.end1; (· rfl); (· exact .tmp rfl)); (· exact ⟨rfl, rfl⟩); (· exact selA))
  | some p =>
    simp only [njres, nptr, Option.map]
    refine Ctr.intro Tryz.func39 rfl Tryz.ntmps39 rfl fun x w hp => ?_
    refine wk ?_
    (have cc := jaskedN_c (some p) a l c; simp only [njres, nptr, Option.map] at cc; refine CX.callA cc ?_; clear cc; rintro _ _ ⟨rfl, rfl⟩)
    refine wk ?_
    ((apply CQ.end1; (· rfl); (· exact .tmp rfl)); (· exact ⟨rfl, rfl⟩); (· exact selA))
end Go.Proofs.YtlckhaodecdbbaaGreat
/-! The document's journal (ref 07): which batches count, in the program. -/
namespace Go.Cx
theorem lit_read {D : DS} (hd : D.dark = false) {k : Nat} (hk : k < D.sure.length) : D.read (k : Int) = (D.get k, 0) := by
  have e : D.lit (k : Int) = 0 := by
    unfold DS.lit DS.there errOf
    rw [hd, if_neg (by simp), if_pos (by omega)]
  unfold DS.read
  rw [e]
  simp
theorem lit_at {D : DS} (hd : D.dark = false) {b i : Nat} (hb : b < 2) (hl : 64 ≤ D.sure.length) (hi : i < bankM D) : (D.read ((firstM D b : Int) + (i : Int))).2 = 0 := by
  have : firstM D b + i < D.sure.length := by
    unfold firstM bankM at *
    have h1 : b = 0 ∨ b = 1 := by omega
    rcases h1 with rfl | rfl <;> omega
  rw [show ((firstM D b : Nat) : Int) + (i : Int) = ((firstM D b + i : Nat) : Int) by omega, lit_read hd this]
theorem upB_eq {n z : Nat} (h1 : n ≤ z) (h2 : z ≤ upB n) (h3 : z % 128 = 0) : z = upB n := by
  unfold upB at *; omega
end Go.Cx
namespace Go.Proofs.YtlckhaodecdbbaaGreat
open Go.Cx
attribute [local irreducible] Go.Cx.CX Go.Cx.CC Go.Cx.CQ Go.Cx.PS Go.Cx.Ctr Go.Cx.CH
set_option maxRecDepth 10000
/-- Which batches count, as the document has it. -/
def RBatP (q r : Nat) (h : HdM) (D : DS) (v : Value) (M : List Assn) : Prop :=
  ∃ a c l ok, v = .tuple #[.slice a l.length c, .bool ok] ∧ M = [rjA q r, rdisk r D, bsA a l] ∧ l.length ≤ 4294967296 ∧ ((readM ⟨0, h⟩ D).2 = 0 → ok = true ∧ l.map SlB.b = (readM ⟨0, h⟩ D).1) ∧ ((readM ⟨0, h⟩ D).2 ≠ 0 → ok = false)
set_option maxHeartbeats 1000000 in
theorem r7batches_c (q r : Nat) (hd' : HdM) (hm : hd'.may) (D : DS) {N : Nat} (h : D.wf N) (hN : N < 1000000) (hlit : D.dark = false) : Ctr Tryz.prog 60 [.pointer (some ⟨q, 0, none⟩), .agg (hc hd').toArray] [rjA q r, rdisk r D] (fun _ => True)
    (RBatP q r hd' D) := by
  unfold RBatP
  obtain ⟨m1, m2, m3⟩ := hm
  have h1 := h.lo
  have h2 := h.hi
  have hbank : bankM D ≤ 2048 := by unfold bankM; omega
  have hmul : hd'.bank * bankM D ≤ 2 * 2048 := Nat.mul_le_mul (by omega) hbank
  have hfst : firstM D hd'.bank ≤ 4098 := by unfold firstM; omega
  refine Ctr.intro Tryz.func60 rfl Tryz.ntmps60 rfl fun x w hp => ?_
  refine wk ?_
  (refine CX.boxA (vs := hc hd') ?_; intro q3)
  refine wk ?_
  refine CC.draw [(0, 0), (1, 1), (2, 0), (3, 0), (4, 2), (5, 0)] mixed rfl (by kernel_rfl) (by kernel_rfl) [bk q3 36 (hc hd')] ?_
  refine hwk ?_
  refine CH.chain rfl fun K hK => ?_
  refine CX.callA (r7bank_c q r D h) ?_
  rintro _ _ ⟨rfl, rfl⟩
  (refine CX.nil ?_; refine CQ.thenK ?_; apply hK; (· exact selA); clear hK K)
  by_cases h0 : bankM D < hd'.blocks
  · rw [show readM ⟨0, hd'⟩ D = ([], 5) by unfold readM; rw [if_pos h0]]
    refine hwk ?_
    refine wk ?_
    refine CQ.give (bsA none []) bs_nil ?_
    (apply CQ.end2; (· rfl); (· exact .tmp rfl); (· exact .tmp rfl))
    · exact ⟨none, 0, [], false, rfl, rfl, by decide, (fun h => by cases h), fun _ => rfl⟩
    · exact selA
  have hrd : readM ⟨0, hd'⟩ D = if (rdAll D (firstM D hd'.bank) 0 hd'.blocks []).2 ≠ 0 then ([], (rdAll D (firstM D hd'.bank) 0 hd'.blocks []).2) else parseM hd'.batches [] (rdAll D (firstM D hd'.bank) 0 hd'.blocks []).1 := by
    unfold readM; rw [if_neg h0]
  refine hwk ?_
  refine wk ?_
  refine CC.ownNil 5 1 ?_
  refine CC.loop (X := Nat × Option Addr × Nat × Blk) (fun s => [(7, .int .i64 (s.1 : Int)), (0, .pointer (some ⟨q, 0, none⟩)), (3, .pointer (some ⟨q3, 0, none⟩)), (6, .slice s.2.1 s.2.2.2.length s.2.2.1)])
    (fun s => [own 5 1 s.2.1 s.2.2.2.length s.2.2.1 (cb s.2.2.2), bk q3 36 (hc hd'), rjA q r, rdisk r D, exact x])
    (fun s => s.1 ≤ hd'.blocks ∧ s.2.2.2.length = s.1 * 128 ∧ rdAll D (firstM D hd'.bank) 0 hd'.blocks [] = rdAll D (firstM D hd'.bank) s.1 (hd'.blocks - s.1) s.2.2.2) (fun s => hd'.blocks - s.1) (0, none, 0, []) ⟨Nat.zero_le _, rfl, rfl⟩ ⟨rfl, rfl, rfl, rfl, trivial⟩ (by exact selA) ?_
  rintro ⟨i, a4, c4, acc⟩ ⟨hi, hacc, hall⟩
  dsimp only at hi hacc hall ⊢
  by_cases h1 : i < hd'.blocks
  · rw [show hd'.blocks - i = (hd'.blocks - (i + 1)) + 1 by omega] at hall
    have hw := read_WB h ((firstM D hd'.bank : Int) + (i : Int))
    have hgo := rdAll_go (D := D) (f := firstM D hd'.bank) (i := i) (n := hd'.blocks - (i + 1)) (acc := acc) (lit_at hlit m1 (by omega) (by omega))
    rw [hgo] at hall
    have hread := r7read_c q r D ((firstM D hd'.bank : Int) + (i : Int)) h hN
    have hfirst := r7first_c q r D hd'.bank (by omega) h
    generalize (D.read ((firstM D hd'.bank : Int) + (i : Int))).1 = u at *
    refine wk ?_
    refine CX.callA (hfirst) ?_
    rintro _ _ ⟨rfl, rfl⟩
    refine wk ?_
    refine CX.callA (hread) ?_
    rintro _ _ ⟨rfl, rfl⟩
    refine CX.allocZ (cb zblk) ?_
    intro q8
    (apply CX.storeAll; (· rfl); (· rfl); (· rfl); (· first | exact pickA | exact updA); (· exact hw.len); (· exact WB_z.len); (· exact one_cb _))
    refine wk ?_
    refine CX.ps (PS.sliceArr (l := 0) (h := 128) rfl rfl rfl rfl (.inl ⟨rfl, rfl⟩) (.inl ⟨rfl, rfl⟩) (by omega) (by omega)) ?_
    rw [cutAt_zero]
    refine CX.append (m := 128 - 0) (news := cb u) rfl rfl rfl (by first | exact pickA | exact updA) (RdS.pick (b := q8) (o := 0) (by first | exact pickA | exact updA) hw.len (one_cb _) (by rw [List.drop_zero, List.take_of_length_le (by rw [hw.len]; omega)])) (by omega) (fun h => by cases h) ?_
    intro a5 c5
    rw [← cb_append]
    have hul : u.length = 128 := hw
    refine wk ?_
    exact CQ.round (x := (i, a4, c4, acc)) (i + 1, a5, c5, acc ++ u) ⟨by dsimp only; omega, by simp [hul]; omega, hall⟩ (by dsimp only; omega) ⟨eqI (by simp), rfl, rfl, slE (by simp [hul]), trivial⟩ (by simp only [List.length_append, hul]; exact selA)
  obtain rfl : i = hd'.blocks := by omega
  rw [Nat.sub_self, rdAll] at hall
  rw [hall, if_neg (by simp)] at hrd
  dsimp only at hrd
  refine CC.fact (own_none (e := 5) (sz := 1) (by first | exact pickA | exact updA)) ?_
  rintro ⟨-, hc4, -⟩
  refine wk ?_
  refine CC.turn (rd a4 acc.length (cb acc)) (own_rd (e := 5) (c := c4)) ?_
  refine CC.ownNil 50 1 ?_
  refine CC.give (valS []) (fun _ => valS_ok.2 fun _ h => by cases h) ?_
  refine CC.loop (X := Nat × Option Addr × Nat × Blk × Option Addr × Nat × List SlB) (fun s => [(10, .int .i64 (s.1 : Int)), (0, .pointer (some ⟨q, 0, none⟩)), (3, .pointer (some ⟨q3, 0, none⟩)), (6, .slice s.2.1 s.2.2.2.1.length s.2.2.1), (9, .slice s.2.2.2.2.1 s.2.2.2.2.2.2.length s.2.2.2.2.2.1)])
    (fun s => [rd s.2.1 s.2.2.2.1.length (cb s.2.2.2.1), own 50 1 s.2.2.2.2.1 s.2.2.2.2.2.2.length s.2.2.2.2.2.1 (rows SlB.cells s.2.2.2.2.2.2), valS s.2.2.2.2.2.2, bk q3 36 (hc hd'), rjA q r, rdisk r D, exact x])
    (fun s => s.1 ≤ hd'.batches ∧ s.2.2.2.1.length ≤ s.2.2.1 ∧ s.2.2.2.1.length % 128 = 0 ∧ s.2.2.2.1.length ≤ 1048576 ∧ readM ⟨0, hd'⟩ D = parseM (hd'.batches - s.1) (s.2.2.2.2.2.2.map SlB.b) s.2.2.2.1 ∧ s.2.2.2.2.2.2.length ≤ s.1) (fun s => hd'.batches - s.1) (0, a4, c4, acc, none, 0, [])
    ⟨Nat.zero_le _, hc4, by dsimp only; omega, by dsimp only; omega, hrd, Nat.le_refl _⟩ ⟨rfl, rfl, rfl, rfl, rfl, trivial⟩ (by exact selA) ?_
  rintro ⟨j, av, cv, rem, a8, c8, l⟩ ⟨hj, hcv, hm, hrl, hpm, hlj⟩
  dsimp only at hj hcv hm hrl hpm hlj ⊢
  by_cases h1 : j < hd'.batches
  · rw [show hd'.batches - j = (hd'.batches - (j + 1)) + 1 by omega, parseM] at hpm
    have hgr := r1getrow_c rem (by omega) av cv hcv 0 1048576 (by decide) (by decide)
    unfold GotRow at hgr
    by_cases he : (Cx.rowAt rem 0 1048576).2.2 = 0
    rotate_left
    · rw [if_pos he] at hpm
      rw [hpm]
      generalize Cx.rowAt rem 0 1048576 = ro at *
      refine wk ?_
      refine CX.callA (hgr) ?_ (hpre := by exact rdx_rd (by first | exact pickA | exact updA))
      rintro _ _ ⟨a9, c9, rfl, rfl⟩
      refine wk ?_
      refine CQ.give (bsA none []) bs_nil ?_
      (apply CQ.end2; (· rfl); (· exact .tmp rfl); (· exact .tmp rfl))
      · exact ⟨none, 0, [], false, rfl, rfl, by decide, (fun h => by cases h), fun _ => rfl⟩
      · exact selA
    obtain ⟨-, hnx, hnl, hr1, -⟩ := rowAt_inv (b := rem) (r := (Cx.rowAt rem 0 1048576).1) (at_ := 0) (most := 1048576) (nx := (Cx.rowAt rem 0 1048576).2.1) (by rw [← he])
    rw [if_neg (by simp [he])] at hpm
    generalize Cx.rowAt rem 0 1048576 = ro at *
    have hge := upB_ge ro.2.1
    have hle := upB_le hnl hm
    rw [he] at hgr
    refine CC.fact (p := ∃ g o, av = some ⟨g, o, none⟩) (fun y hy => rdx_some (rd_ok.1 (Pick.ok (show Pick (rd av rem.length (cb rem)) _ _ from by first | exact pickA | exact updA) hy)) (by omega)) ?_
    rintro ⟨g, o, rfl⟩
    refine wk ?_
    refine CX.callA (hgr) ?_ (hpre := by exact rdx_rd (by first | exact pickA | exact updA))
    rintro _ _ ⟨a9, c9, rfl, rfl⟩
    refine wk ?_
    refine CC.loop (X := Nat) (fun z => [(12, .int .i64 (z : Int)), (11, .slice a9 ro.1.length c9), (10, .int .i64 (j : Int)), (0, .pointer (some ⟨q, 0, none⟩)), (3, .pointer (some ⟨q3, 0, none⟩)), (6, .slice (some ⟨g, o, none⟩) rem.length cv), (9, .slice a8 l.length c8)])
      (fun _ => [own 5 1 a9 ro.1.length c9 (cb ro.1), rd (some ⟨g, o, none⟩) rem.length (cb rem), own 50 1 a8 l.length c8 (rows SlB.cells l), valS l, bk q3 36 (hc hd'), rjA q r, rdisk r D, exact x])
      (fun z => ro.2.1 ≤ z ∧ z ≤ upB ro.2.1 ∧ ∀ k (hk : k < rem.length), ro.2.1 ≤ k → k < z → rem[k] = 0) (fun z => upB ro.2.1 - z) ro.2.1 ⟨Nat.le_refl _, hge, fun k _ h1 h2 => by omega⟩ ⟨rfl, rfl, rfl, rfl, rfl, rfl, rfl, trivial⟩ (by exact selA) ?_
    rintro z ⟨hz1, hz2, hz3⟩
    have hz0 : z % 128 < 128 := Nat.mod_lt _ (by omega)
    by_cases h7 : z % 128 = 0
    rotate_left
    · have hzl : z < upB ro.2.1 := by
        have : upB ro.2.1 % 128 = 0 := by unfold upB; omega
        have hne : z ≠ upB ro.2.1 := fun e => h7 (by rw [e]; exact this)
        omega
      have hzr : z < rem.length := by omega
      have hcell : ∀ {L L' : List Assn}, Pick (rd (some ⟨g, o, none⟩) rem.length (cb rem)) L L' → CellAt L g (o + z * 1) (.int .u8 (rem[z].toNat : Int)) := fun pk y hy => by
        rcases rdx_rd pk y hy with h0 | ⟨g', o', cs, t, fr, e, hx, hc⟩
        · omega
        · simp only [Option.some.injEq, Addr.mk.injEq, and_true] at e
          obtain ⟨rfl, rfl⟩ := e
          exact ⟨cs, t, fr, hx, by rw [Nat.mul_one]; exact hc z _ (cb_get rem z hzr)⟩
      have h7' : ¬ ((z % 128 : Nat) : Int) = 0 := by omega
      generalize hzm : z % 128 = zm at *
      by_cases h8 : rem[z] = 0
      · rw [h8] at hcell
        refine wk ?_
        refine CX.ps (PS.rem (z := ((z % 128 : Nat) : Int)) rfl rfl rfl (by decide) (tmod_nn (by omega))) ?_
        rw [hzm]
        refine wk ?_
        (refine CX.indexA (z) ?_ ?_; (· exact hzr))
        (apply CX.ps; (· apply PS.load (v := .int .u8 ((0 : UInt8).toNat : Int)); (· rfl); (· rfl); (· exact hcell (by first | exact pickA | exact updA))))
        refine wk ?_
        exact CQ.round (z + 1) ⟨by omega, hzl, fun k hk h1 h2 => by
          by_cases e : k < z
          · exact hz3 k hk h1 e
          · obtain rfl : k = z := by omega
            exact h8⟩ (by omega) ⟨eqI (by omega), rfl, rfl, rfl, rfl, rfl, rfl, trivial⟩ (by exact selA)
      · have hne := u8_ne h8
        have hex : ∃ c ∈ (rem.drop ro.2.1).take (upB ro.2.1 - ro.2.1), c ≠ 0 := ⟨rem[z], by
          rw [List.mem_iff_getElem]
          refine ⟨z - ro.2.1, by simp; omega, ?_⟩
          simp only [List.getElem_take, List.getElem_drop]
          congr 1; omega, h8⟩
        rw [if_pos hex] at hpm
        rw [hpm]
        refine wk ?_
        refine CX.ps (PS.rem (z := ((z % 128 : Nat) : Int)) rfl rfl rfl (by decide) (tmod_nn (by omega))) ?_
        rw [hzm]
        refine wk ?_
        (refine CX.indexA (z) ?_ ?_; (· exact hzr))
        (apply CX.ps; (· apply PS.load (v := .int .u8 (rem[z].toNat : Int)); (· rfl); (· rfl); (· exact hcell (by first | exact pickA | exact updA))))
        refine wk ?_
        refine CQ.give (bsA none []) bs_nil ?_
        (apply CQ.end2; (· rfl); (· exact .tmp rfl); (· exact .tmp rfl))
        · exact ⟨none, 0, [], false, rfl, rfl, by decide, (fun h => by cases h), fun _ => rfl⟩
        · exact selA
    have hzu := upB_eq hz1 hz2 h7
    have hnone : ¬ ∃ c ∈ (rem.drop ro.2.1).take (upB ro.2.1 - ro.2.1), c ≠ 0 := by
      rintro ⟨c, hc, hn⟩
      rw [List.mem_iff_getElem] at hc
      obtain ⟨k, hk, rfl⟩ := hc
      simp only [List.length_take, List.length_drop] at hk
      simp only [List.getElem_take, List.getElem_drop] at hn
      exact hn (hz3 _ (by omega) (by omega) (by omega))
    rw [if_neg hnone] at hpm
    have h7' : ((z % 128 : Nat) : Int) = 0 := by omega
    refine wk ?_
    refine CX.ps (PS.rem (z := ((z % 128 : Nat) : Int)) rfl rfl rfl (by decide) (tmod_nn (by omega))) ?_
    refine wk ?_
    refine CX.buildSl (parts := [(0, _)]) (vs := [(0, .slice a9 ro.1.length c9)]) (out := [.slice a9 ro.1.length c9]) rfl rfl (by decide) (by simp [fillL, Value.cells, setL]) fun bq => ?_
    refine CX.append (m := 1) (news := [.slice a9 ro.1.length c9]) rfl rfl rfl (by first | exact pickA | exact updA) (RdS.pick (b := bq) (o := 0) (by first | exact pickA | exact updA) rfl (one_all rfl) rfl) (by omega) (fun h => by cases h) ?_
    intro a10 c10
    refine CX.merge (valS (l ++ [⟨a9, ro.1, c9⟩])) valS_snoc ?_
    refine wk ?_
    refine CX.ps (PS.sliceLo (l := upB ro.2.1) rfl rfl rfl (by rw [hzu]) hle hcv) ?_
    refine wk ?_
    refine CQ.turn (rd (some ⟨g, if cv = upB ro.2.1 then o else o + upB ro.2.1 * 1, none⟩) (rem.length - upB ro.2.1) (cb (rem.drop (upB ro.2.1)))) (fun y s => rd_ok.2 (rdx_cut (rd_ok.1 s) rfl hle hcv)) ?_
    exact CQ.round (x := (j, some ⟨g, o, none⟩, cv, rem, a8, c8, l)) (j + 1, some ⟨g, if cv = upB ro.2.1 then o else o + upB ro.2.1 * 1, none⟩, cv - upB ro.2.1, rem.drop (upB ro.2.1), a10, c10, l ++ [⟨a9, ro.1, c9⟩]) ⟨by dsimp only; omega, by simp; omega, by simp [upB] at hle ⊢; omega, by simp; omega, by dsimp only; rw [List.map_append]; exact hpm, by simp; omega⟩ (by dsimp only; omega) ⟨eqI (by simp), rfl, rfl, slE (by simp), slE (by simp), trivial⟩ (by simp only [List.length_append, List.length_drop, rows_append]; exact selA)
  obtain rfl : j = hd'.batches := by omega
  rw [Nat.sub_self, parseM] at hpm
  have hl32 : l.length ≤ 4294967296 := by omega
  by_cases h3 : 0 < rem.length
  · rw [if_pos h3] at hpm
    rw [hpm]
    refine wk ?_
    refine CQ.merge (bsA a8 l) own_bs ?_
    (apply CQ.end2; (· rfl); (· exact .tmp rfl); (· exact .tmp rfl))
    · exact ⟨a8, c8, l, false, rfl, rfl, hl32, (fun h => by cases h), fun _ => rfl⟩
    · exact selA
  · rw [if_neg h3] at hpm
    rw [hpm]
    have h4 : (rem.length : Int) = 0 := by omega
    refine wk ?_
    refine CQ.merge (bsA a8 l) own_bs ?_
    (apply CQ.end2; (· rfl); (· exact .tmp rfl); (· exact .tmp rfl))
    · exact ⟨a8, c8, l, true, rfl, rfl, hl32, fun _ => ⟨rfl, rfl⟩, fun h => absurd rfl h⟩
    · exact selA
end Go.Proofs.YtlckhaodecdbbaaGreat
/-! The journal in plain Lean: what is laid is read. No program in sight. -/
namespace Go.Cx
/-! ### Cut, and read again -/
theorem chop_nil : chopB [] = [] := rfl
theorem chop_cons {R : Blk} (h : 0 < R.length) : chopB R = padB 128 (R.take 128) :: chopB (R.drop 128) := by
  unfold chopB
  rw [show (R.length + 127) / 128 = ((R.drop 128).length + 127) / 128 + 1 by simp; omega, List.range_succ_eq_map, List.map_cons, List.map_map]
  simp only [Nat.zero_mul, List.drop_zero]
  congr 1
  apply List.map_congr_left
  intro i _
  simp only [Function.comp]
  rw [List.drop_drop, show 128 + i * 128 = (i + 1) * 128 by omega]
theorem chop_flat : ∀ (m : Nat) (R : Blk), R.length ≤ m → (chopB R).flatten = R ++ List.replicate (upB R.length - R.length) 0
  | 0, R, h => by
    obtain rfl : R = [] := List.length_eq_zero_iff.1 (by omega)
    simp [chop_nil, upB]
  | m + 1, R, h => by
    by_cases h0 : 0 < R.length
    · rw [chop_cons h0, List.flatten_cons, chop_flat m _ (by simp; omega)]
      by_cases h1 : R.length ≤ 128
      · have e1 : R.drop 128 = [] := List.drop_of_length_le h1
        have e2 : R.take 128 = R := List.take_of_length_le h1
        rw [e1, e2]
        simp only [padB, List.nil_append, List.length_nil, upB]
        rw [show (R.length + 127) / 128 * 128 - R.length = 128 - R.length by omega]
        simp
      · have e2 : padB 128 (R.take 128) = R.take 128 := by
          have : (R.take 128).length = 128 := by simp; omega
          unfold padB; rw [this]; simp
        rw [e2, ← List.append_assoc, List.take_append_drop]
        congr 2
        simp only [List.length_drop, upB]; omega
    · obtain rfl : R = [] := List.length_eq_zero_iff.1 (by omega)
      simp [chop_nil, upB]
theorem cut_flat (b : Blk) : (cutB b).flatten = rowB b ++ List.replicate (upB (4 + b.length) - (4 + b.length)) 0 := by
  have := chop_flat _ (rowB b) (Nat.le_refl _)
  rw [rowB_length] at this; exact this
def Cut (bs : List Blk) : List Blk := (bs.map cutB).flatten
theorem Cut_snoc (bs : List Blk) (b : Blk) : Cut (bs ++ [b]) = Cut bs ++ cutB b := by simp [Cut]
theorem Cut_one (b : Blk) : Cut [b] = cutB b := by simp [Cut]
theorem Cut_cons (b : Blk) (bs : List Blk) : Cut (b :: bs) = cutB b ++ Cut bs := by simp [Cut]
theorem cut_pos (b : Blk) : 1 ≤ (cutB b).length := by rw [cut_len]; omega
theorem Cut_len_ge (bs : List Blk) : bs.length ≤ (Cut bs).length := by
  induction bs with
  | nil => simp
  | cons b bs ih => rw [Cut_cons, List.length_append, List.length_cons]; have := cut_pos b; omega
theorem Cut_WB (bs : List Blk) : ∀ x ∈ Cut bs, WB x := fun x hx => by
  simp only [Cut, List.mem_flatten, List.mem_map] at hx
  obtain ⟨_, ⟨b, _, rfl⟩, hx⟩ := hx
  exact chop_WB _ x hx
theorem upB_ge' (n : Nat) : n ≤ upB n := by unfold upB; omega
theorem parse_print : ∀ (bs l : List Blk), (∀ b ∈ bs, b.length ≤ 1048576) → parseM bs.length l (Cut bs).flatten = (l ++ bs, 0)
  | [], l, _ => by simp [parseM, Cut]
  | b :: bs, l, h => by
    have hb := h b (by simp)
    have e : (Cut (b :: bs)).flatten = rowB b ++ (List.replicate (upB (4 + b.length) - (4 + b.length)) 0 ++ (Cut bs).flatten) := by
      rw [Cut_cons, List.flatten_append, cut_flat, List.append_assoc]
    have hr : Cx.rowAt (Cut (b :: bs)).flatten 0 1048576 = (b, 0 + 4 + b.length, 0) := rowAt_print (by omega) (by rw [List.drop_zero]; exact e) hb (by omega)
    have hg := upB_ge' (4 + b.length)
    have e1 : (Cut (b :: bs)).flatten.drop (4 + b.length) = List.replicate (upB (4 + b.length) - (4 + b.length)) 0 ++ (Cut bs).flatten := by
      rw [e, List.drop_append, List.drop_of_length_le (by rw [rowB_length]; omega), rowB_length]; simp
    have e2 : (Cut (b :: bs)).flatten.drop (upB (4 + b.length)) = (Cut bs).flatten := by
      rw [show upB (4 + b.length) = (4 + b.length) + (upB (4 + b.length) - (4 + b.length)) by omega, ← List.drop_drop, e1, List.drop_append]
      simp
    rw [List.length_cons, parseM, hr]
    simp only [ne_eq, not_true_eq_false, if_false, Nat.zero_add]
    rw [e1, if_neg, e2, parse_print bs _ (fun x hx => h x (by simp [hx]))]
    · simp
    · rintro ⟨c, hc, hn⟩
      rw [List.take_append_of_le_length (by simp)] at hc
      exact hn (List.eq_of_mem_replicate (List.mem_of_mem_take hc))
theorem rdAll_eq {D : DS} {f : Nat} : ∀ (n i : Nat) (acc : Blk) (g : Nat → Blk), (∀ k, i ≤ k → k < i + n → D.read ((f : Int) + (k : Int)) = (g k, 0)) → rdAll D f i n acc = (acc ++ ((List.range' i n).map g).flatten, 0)
  | 0, i, acc, g, _ => by simp [rdAll]
  | n + 1, i, acc, g, h => by
    have h0 := h i (Nat.le_refl _) (by omega)
    rw [rdAll, h0]
    simp only [ne_eq, not_true_eq_false, if_false]
    rw [rdAll_eq n (i + 1) _ g (fun k h1 h2 => h k (by omega) (by omega)), List.range'_succ]
    simp
/-! ### Slots -/
/-- A block that counts less than any sealed one of number m. -/
structure Slot (m : Nat) (X : Blk) : Prop where
  wb : WB X
  beg : ∃ b, b ≤ 60 ∧ X.take 8 = le 8 b
  fin : ∀ j, m ≤ j → j ≤ 60 → X.drop 120 ≠ le 8 (top - j)
theorem Slot.up {m k : Nat} {X : Blk} (h : Slot m X) (hk : m ≤ k) : Slot k X := ⟨h.wb, h.beg, fun j h1 h2 => h.fin j (by omega) h2⟩
theorem le8_inj {a b : Nat} (ha : a ≤ top) (hb : b ≤ top) (e : le 8 a = le 8 b) : a = b := by
  have := congrArg ofLe e
  rwa [ofLe8 ha, ofLe8 hb] at this
theorem Slot.valid {m : Nat} {X : Blk} (h : Slot m X) (v : Valid X) : ofLe (X.take 8) < m := by
  obtain ⟨b, hb, e⟩ := h.beg
  have h1 := v.fin
  have ht : (60 : Nat) ≤ top := by decide
  have eb : ofLe (X.take 8) = b := by rw [e, ofLe8 (by omega)]
  rw [eb] at h1 ⊢
  refine Decidable.byContradiction fun hn => h.fin b (by omega) hb ?_
  have w : X.length = 128 := h.wb
  have := le_ofLe (X.drop 120)
  rw [show (X.drop 120).length = 8 by simp; omega, h1] at this
  exact this.symm
theorem Slot.num {m : Nat} {X : Blk} (h : Slot m X) (hm : 1 ≤ m) : (getM X).1 < m := by
  by_cases v : Valid X
  · rw [get_ok v]; exact h.valid v
  · rw [(get_bad v).1]; omega
theorem getH_num (X : Blk) : (getH X).1 ≤ (getM X).1 := by
  unfold getH
  split
  · exact Nat.zero_le _
  · split
    · exact Nat.zero_le _
    · exact Nat.le_refl _
theorem slot_z {m : Nat} (hm : 1 ≤ m) : Slot m zblk :=
  ⟨WB_z, ⟨0, by omega, by decide⟩, fun j h1 h2 e => by
    have e0 : zblk.drop 120 = le 8 0 := by decide
    rw [e0] at e
    have := le8_inj (by decide) (by omega) e
    simp only [top] at this; omega⟩
theorem slot_seal {n m : Nat} {b : Blk} (hn : n < m) (h60 : n ≤ 60) (hb : b.length ≤ 108) : Slot m (sealB n b) :=
  ⟨sealB_WB hb, ⟨n, h60, sealB_8 n b⟩, fun j h1 h2 e => by
    rw [sealB_120 hb] at e
    have := le8_inj (by omega) (by omega) e
    simp only [top] at this; omega⟩
theorem torn_take {a b : Blk} {n : Nat} (hb : WB b) (hn : n ≤ 128) {k : Nat} (hk : k ≤ n) : (torn a b n).take k = b.take k := by
  unfold torn
  have hb' : b.length = 128 := hb
  rw [List.take_append_of_le_length (by simp; omega), List.take_take, Nat.min_eq_left hk]
theorem torn_drop {a b : Blk} {n : Nat} (hb : WB b) (hn : n ≤ 128) {k : Nat} (hk : n ≤ k) : (torn a b n).drop k = a.drop k := by
  unfold torn
  have hb' : b.length = 128 := hb
  have hl : (b.take n).length = n := by simp; omega
  rw [List.drop_append, List.drop_of_length_le (by omega), hl, List.nil_append, List.drop_drop]
  congr 1; omega
theorem le8_small {b : Nat} (hb : b ≤ 60) : le 8 b = UInt8.ofNat b :: [0, 0, 0, 0, 0, 0, 0] := by
  have : ∀ b, b ≤ 60 → le 8 b = UInt8.ofNat b :: [0, 0, 0, 0, 0, 0, 0] := by decide
  exact this b hb
theorem le8_top {b : Nat} (hb : b ≤ 60) : le 8 (top - b) = UInt8.ofNat (255 - b) :: [255, 255, 255, 255, 255, 255, 255] := by
  have : ∀ b, b ≤ 60 → le 8 (top - b) = UInt8.ofNat (255 - b) :: [255, 255, 255, 255, 255, 255, 255] := by decide
  exact this b hb
/-- Of a block of number m a beginning is written over one that counts less. -/
theorem slot_torn {m0 m : Nat} {X h : Blk} (hs : Slot m0 X) (h60 : m ≤ 60) (hh : h.length ≤ 108) {n : Nat} (hn : n ≤ 128) : torn X (sealB m h) n = sealB m h ∨ Slot m0 (torn X (sealB m h) n) := by
  have hw := sealB_WB (n := m) hh
  have hw' : (sealB m h).length = 128 := hw
  have hX : X.length = 128 := hs.wb
  obtain ⟨b, hb, eb⟩ := hs.beg
  by_cases h120 : n ≤ 120
  · right
    refine ⟨torn_len hs.wb hw, ?_, fun j h1 h2 => ?_⟩
    · by_cases h0 : n = 0
      · subst h0; refine ⟨b, hb, ?_⟩; unfold torn; simpa using eb
      · refine ⟨m, h60, ?_⟩
        by_cases h8 : 8 ≤ n
        · rw [torn_take hw hn h8, sealB_8]
        · have e1 : (torn X (sealB m h) n).take 8 = (sealB m h).take n ++ (X.take 8).drop n := by
            unfold torn
            rw [List.take_append, List.take_of_length_le (by simp; omega), List.drop_take]
            simp only [List.length_take, hw', show min n 128 = n by omega]
          have e2 : (sealB m h).take n = (le 8 m).take n := by rw [← sealB_8 m h, List.take_take, Nat.min_eq_left (by omega)]
          rw [e1, e2, eb, le8_small hb, le8_small h60]
          have h0' : n = 1 ∨ n = 2 ∨ n = 3 ∨ n = 4 ∨ n = 5 ∨ n = 6 ∨ n = 7 := by omega
          rcases h0' with rfl | rfl | rfl | rfl | rfl | rfl | rfl <;> rfl
    · rw [torn_drop hw hn h120]; exact hs.fin j h1 h2
  · by_cases he : (torn X (sealB m h) n).drop 120 = le 8 (top - m)
    · left
      have e1 := torn_take (a := X) hw hn (show 120 ≤ n by omega)
      rw [← List.take_append_drop 120 (torn X (sealB m h) n), e1, he, ← sealB_120 (n := m) hh, List.take_append_drop]
    · right
      refine ⟨torn_len hs.wb hw, ⟨m, h60, by rw [torn_take hw hn (by omega), sealB_8]⟩, fun j h1 h2 e => ?_⟩
      by_cases hj : j = m
      · subst hj; exact he e
      · have e1 := torn_take (a := X) hw hn (show 121 ≤ n by omega)
        have e2 := congrArg (fun l : Blk => l.drop 120) e1
        simp only [List.drop_take, sealB_120 hh, e, le8_top h2, le8_top h60] at e2
        simp at e2
        have e3 := congrArg UInt8.toNat e2
        simp at e3
        omega
/-! ### What stands on a disk -/
def bankS (S : List Blk) : Nat := (S.length - 2) / 2
def firstS (S : List Blk) (b : Nat) : Nat := 2 + b * bankS S
structure JSt (S : List Blk) (J : JM) (bs : List Blk) : Prop where
  lo : 64 ≤ S.length
  hi : S.length ≤ 4096
  wb : ∀ b ∈ S, WB b
  n1 : 1 ≤ J.n
  n2 : J.n ≤ 60
  may : J.h.may
  blocks : J.h.blocks = (Cut bs).length
  batches : J.h.batches = bs.length
  room : J.h.blocks ≤ bankS S
  sz : ∀ b ∈ bs, b.length ≤ 1048576
  cnt : ∀ i, i < J.h.blocks → S.getD (firstS S J.h.bank + i) [] = (Cut bs).getD i []
  heads : ∃ s, s < 2 ∧ S.getD s [] = (putH J.n J.h).1 ∧ Slot J.n (S.getD (1 - s) [])
/-- What counts. -/
def Live (S : List Blk) (J : JM) (k : Nat) : Prop := k < 2 ∨ (firstS S J.h.bank ≤ k ∧ k < firstS S J.h.bank + J.h.blocks)
theorem JSt.congr {S S' : List Blk} {J : JM} {bs : List Blk} (h : JSt S J bs) (hl : S'.length = S.length) (hw : ∀ b ∈ S', WB b) (he : ∀ k, Live S J k → S'.getD k [] = S.getD k []) : JSt S' J bs := by
  have hb : bankS S' = bankS S := by unfold bankS; rw [hl]
  have hf : ∀ b, firstS S' b = firstS S b := fun b => by unfold firstS; rw [hb]
  obtain ⟨s, h1, h2, h3⟩ := h.heads
  refine ⟨by rw [hl]; exact h.lo, by rw [hl]; exact h.hi, hw, h.n1, h.n2, h.may, h.blocks, h.batches, by rw [hb]; exact h.room, h.sz, fun i hi => ?_, s, h1, ?_, ?_⟩
  · rw [hf, he _ (.inr ⟨by omega, by omega⟩)]; exact h.cnt i hi
  · rw [he s (.inl h1)]; exact h2
  · rw [he (1 - s) (.inl (by omega))]; exact h3
theorem putH_ok {n : Nat} {h : HdM} (h1 : 1 ≤ n) (h2 : n ≤ 60) (hm : h.may) : putH n h = (sealB n h.bytes, 0) := by
  unfold putH; rw [if_neg]
  rintro (a | a | a)
  · omega
  · unfold most at a; omega
  · exact a hm
theorem JSt.newest {S : List Blk} {J : JM} {bs : List Blk} (h : JSt S J bs) : newH (S.getD 0 []) (S.getD 1 []) = (J.n, J.h, 0) ∧ ∃ s : Nat, s < 2 ∧ nextM (S.getD 0 []) (S.getD 1 []) = ((1 - s : Nat) : Int) ∧ S.getD s [] = (putH J.n J.h).1 ∧ Slot J.n (S.getD (1 - s) []) := by
  obtain ⟨s, h1, h2, h3⟩ := h.heads
  have hp := putH_ok h.n1 h.n2 h.may
  have hg : getH (sealB J.n J.h.bytes) = (J.n, J.h, 0) := by
    have := (get_put (n := J.n) (h := J.h) (by rw [hp])).2.2.2.2; rwa [hp] at this
  have hm : (getM (sealB J.n J.h.bytes)).1 = J.n := by rw [get_sealB h.n1 (Nat.le_trans h.n2 (by decide)) (by rw [bytes_len]; omega)]
  have hn := h3.num h.n1
  have hn2 := getH_num (S.getD (1 - s) [])
  have h1' := h.n1
  rw [hp] at h2
  dsimp only at h2
  refine ⟨?_, s, h1, ?_, by rw [hp]; exact h2, h3⟩
  · match s, h1 with
    | 0, _ =>
      rw [newH_eq, h2, hg, if_neg (by simp), if_neg (by simp only [Nat.sub_zero] at hn2 hn; omega)]
    | 1, _ =>
      rw [newH_eq, h2, hg, if_neg (by simp), if_pos (by simp only [Nat.sub_self] at hn2 hn; omega)]
  · match s, h1 with
    | 0, _ =>
      unfold nextM
      simp only [Nat.sub_zero] at hn
      rw [h2, hm, if_neg (by omega), if_neg (by omega)]; rfl
    | 1, _ =>
      unfold nextM
      simp only [Nat.sub_self] at hn
      rw [h2, hm, if_neg (by omega), if_pos (by omega)]; rfl
/-- A disk on which no write is under way, in the light. -/
structure Calm (D : DS) : Prop where
  lit : D.dark = false
  loose : D.loose = []
theorem Calm.litAt {D : DS} (h : Calm D) {k : Nat} (hk : k < D.sure.length) : D.lit (k : Int) = 0 := by
  unfold DS.lit DS.there errOf
  rw [h.lit, if_neg (by simp), if_pos (by omega)]
theorem Calm.read {D : DS} (h : Calm D) {k : Nat} (hk : k < D.sure.length) : D.read (k : Int) = (D.sure.getD k [], 0) := by
  unfold DS.read
  rw [h.litAt hk, if_neg (by simp)]
  simp [DS.get, h.loose]
theorem Calm.both {D : DS} (h : Calm D) (hl : 64 ≤ D.sure.length) : bothM D = (D.sure.getD 0 [], D.sure.getD 1 [], 0) := by
  unfold bothM
  have h0 := h.read (k := 0) (by omega)
  have h1 := h.read (k := 1) (by omega)
  simp only [Int.ofNat_zero, Int.ofNat_one] at h0 h1
  rw [h0, h1]; simp
theorem bank_eq (D : DS) : bankM D = bankS D.sure := rfl
theorem first_eq (D : DS) (b : Nat) : firstM D b = firstS D.sure b := rfl
theorem first_le {S : List Blk} {b i : Nat} (h64 : 64 ≤ S.length) (hb : b < 2) (hi : i < bankS S) : firstS S b + i < S.length := by
  unfold firstS bankS at *
  have : b = 0 ∨ b = 1 := by omega
  rcases this with rfl | rfl <;> omega
theorem JSt.read {D : DS} {J : JM} {bs : List Blk} (h : JSt D.sure J bs) (c : Calm D) : readM J D = (bs, 0) := by
  have hr := h.room
  unfold readM
  rw [bank_eq, first_eq, if_neg (by omega)]
  have e := rdAll_eq (D := D) (f := firstS D.sure J.h.bank) J.h.blocks 0 [] (fun i => (Cut bs).getD i []) (fun k _ hk => by
    have hlt := first_le h.lo h.may.1 (i := k) (by omega)
    have := c.read hlt
    rw [show ((firstS D.sure J.h.bank : Nat) : Int) + (k : Int) = ((firstS D.sure J.h.bank + k : Nat) : Int) by omega, this, h.cnt k (by omega)])
  have e2 : (List.range' 0 J.h.blocks).map (fun i => (Cut bs).getD i []) = Cut bs := by
    apply List.ext_getElem
    · simp [h.blocks]
    · intro i h1 h2
      simp [h2]
  rw [e2] at e
  rw [e]
  simp only [ne_eq, not_true_eq_false, if_false, List.nil_append]
  rw [h.batches, parse_print bs [] h.sz]; rfl
theorem JSt.opens {D : DS} {J : JM} {bs : List Blk} (h : JSt D.sure J bs) (c : Calm D) : openM D = (0, J) := by
  unfold openM
  rw [c.both h.lo]
  simp only [ne_eq, not_true_eq_false, if_false]
  rw [h.newest.1]
  have hn := h.n2
  simp only [not_true_eq_false, false_or]
  rw [if_neg (by omega), show (⟨J.n, J.h⟩ : JM) = J from rfl, h.read c]
end Go.Cx
