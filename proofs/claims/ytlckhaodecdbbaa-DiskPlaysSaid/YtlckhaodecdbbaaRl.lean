/- The document's disk: Read, Rot, Crash. -/
import Derived.Test.YtlckhaodecdbbaaRk
set_option linter.unusedVariables false
set_option linter.unusedSimpArgs false
namespace Go.Proofs.Ytlckhaodecdbbaa
open Go.Cx
attribute [local irreducible] Go.Cx.CX Go.Cx.CC Go.Cx.CQ Go.Cx.PS Go.Cx.Ctr Go.Cx.CH
set_option maxRecDepth 10000

theorem flat_get {S : List Blk} (h : ∀ b ∈ S, WB b) {k : Nat} (hk : k < S.length) : ((flat S).drop (0 + k * 128)).take (cb (S.getD k [])).length = cb (S.getD k []) := by
  have hg : S.getD k [] = S[k] := by simp [hk]
  have hb : WB S[k] := h _ (by simp)
  have := rows_get cb 128 S (fun x hx => (h x hx).len) k hk 0 128 (by omega)
  rw [hg, hb.len, Nat.zero_add]
  rw [Nat.add_zero, List.drop_zero] at this
  rw [flat, this, List.take_of_length_le (by rw [hb.len]; omega)]
theorem valOf_WB {S : List Blk} {l : List (Nat × Blk)} (hS : ∀ b ∈ S, WB b) (hl : ∀ p ∈ l, WB p.2) {k : Nat} (hk : k < S.length) : WB (valOf S l k) := by
  unfold valOf
  split
  · rename_i p hp
    have := List.mem_of_find?_eq_some hp
    exact hl p (by simpa using this)
  · exact getD_WB hS hk
theorem valOf_succ (S : List Blk) (l : List (Nat × Blk)) (k i : Nat) (h : i < l.length) : valOf S (l.take (i + 1)) k = if l[i].1 = k then l[i].2 else valOf S (l.take i) k := by
  unfold valOf
  rw [lastOf_succ l k i h]
  by_cases he : l[i].1 = k
  · rw [if_pos he, if_pos he]
  · rw [if_neg he, if_neg he]
theorem torn_all {a b : Blk} (ha : WB a) (hb : WB b) : torn a b 128 = b := by
  unfold torn; rw [List.take_of_length_le (by rw [hb]; omega), List.drop_of_length_le (by rw [ha]; omega), List.append_nil]
theorem rread_c (p : Nat) (D : DS) (n : Int) {N : Nat} (h : D.wf N) (hN : N < 1000000) : Ctr Try.prog 110 [.pointer (some ⟨p, 0, none⟩), .int .i64 n] [rdisk p D] (fun _ => True) (fun v M => v = .tuple #[.agg (cb (D.read n).1).toArray, .int .i64 (D.read n).2] ∧ M = [rdisk p D]) := by
  have hlo := h.loose
  have hlb : ∀ p ∈ D.loose, WB p.2 := fun p hp => (h.lb p hp).2
  refine Ctr.intro Try.func110 rfl Try.ntmps110 rfl fun x w hp => ?_
  repeat (first | refine CX.psA ?_ | refine CX.nil ?_ | refine CQ.thenN ?_ | refine CQ.thenR ?_ | refine CQ.thenX ?_ | refine CQ.blockN ?_ | refine CQ.blockR ?_ | refine CQ.blockX ?_ | refine CQ.blockYA ?_ | refine CC.seq ?_ | refine CC.block ?_ | refine CC.region ?_ | refine CC.skip ?_ | refine CC.ret ?_ | refine CC.exit ?_ | refine CC.condTA ?_ | refine CC.condFA ?_ | refine CC.condDTA ?_ | refine CC.condDFA ?_ | refine CX.storeA ?_ | refine CX.skipA ?_)
  (refine CX.allocZ (cb zblk) ?_; intro r)
  repeat (first | refine CX.psA ?_ | refine CX.nil ?_ | refine CQ.thenN ?_ | refine CQ.thenR ?_ | refine CQ.thenX ?_ | refine CQ.blockN ?_ | refine CQ.blockR ?_ | refine CQ.blockX ?_ | refine CQ.blockYA ?_ | refine CC.seq ?_ | refine CC.block ?_ | refine CC.region ?_ | refine CC.skip ?_ | refine CC.ret ?_ | refine CC.exit ?_ | refine CC.condTA ?_ | refine CC.condFA ?_ | refine CC.condDTA ?_ | refine CC.condDFA ?_ | refine CX.storeA ?_ | refine CX.skipA ?_)
  refine CX.callA (rasks_c p D n) ?_
  rintro _ _ ⟨rfl, rfl⟩
  by_cases h0 : D.lit n = 0
  · have h1 : D.there n = 0 := by unfold DS.lit at h0; split at h0; cases h0; exact h0
    obtain ⟨k, rfl, hk⟩ := there_ok h1
    have hb : WB D.sure[k] := h.wb _ (by simp)
    (refine CX.openL (rdisk_eq p _) (by repeat (first | exact .head _ | apply Pick.tail | apply Upd.tail)) ?_; rintro ⟨sb, sc, la, lc⟩ -)
    repeat (first | refine CX.psA ?_ | refine CX.nil ?_ | refine CQ.thenN ?_ | refine CQ.thenR ?_ | refine CQ.thenX ?_ | refine CQ.blockN ?_ | refine CQ.blockR ?_ | refine CQ.blockX ?_ | refine CQ.blockYA ?_ | refine CC.seq ?_ | refine CC.block ?_ | refine CC.region ?_ | refine CC.skip ?_ | refine CC.ret ?_ | refine CC.exit ?_ | refine CC.condTA ?_ | refine CC.condFA ?_ | refine CC.condDTA ?_ | refine CC.condDFA ?_ | refine CX.storeA ?_ | refine CX.skipA ?_)
    refine CX.indexA (k) (by exact hk) ?_
    (apply CX.ps; (· apply PS.loadG (vs := cb D.sure[k]); (· rfl); (· rfl); (· exact CellsAt.own (by repeat (first | exact .head _ | apply Pick.tail | apply Upd.tail)) (sure_at h hk)); (· exact hb.len)))
    (refine CX.allocZ (cb zblk) ?_; intro b7)
    (apply CX.storeAll; (· rfl); (· rfl); (· rfl); (· repeat (first | exact .head _ | apply Pick.tail | apply Upd.tail)); (· exact hb.len); (· exact WB_z.len); (· exact one_cb _))
    repeat (first | refine CX.psA ?_ | refine CX.nil ?_ | refine CQ.thenN ?_ | refine CQ.thenR ?_ | refine CQ.thenX ?_ | refine CQ.blockN ?_ | refine CQ.blockR ?_ | refine CQ.blockX ?_ | refine CQ.blockYA ?_ | refine CC.seq ?_ | refine CC.block ?_ | refine CC.region ?_ | refine CC.skip ?_ | refine CC.ret ?_ | refine CC.exit ?_ | refine CC.condTA ?_ | refine CC.condFA ?_ | refine CC.condDTA ?_ | refine CC.condDFA ?_ | refine CX.storeA ?_ | refine CX.skipA ?_)
    have hv0 : D.sure[k] = valOf D.sure (D.loose.take 0) k := by simp [valOf, lastOf, hk]
    have hr : D.read k = (valOf D.sure D.loose k, 0) := by simp [DS.read, h0, DS.get, valOf, lastOf]; rfl
    rw [hv0]
    refine CC.loop (X := Nat) (fun i => [(8, .int .i64 (i : Int)), (0, .pointer (some ⟨p, 0, none⟩)), (1, .int .i64 (k : Int)), (4, .pointer (some ⟨r, 0, none⟩)), (7, .pointer (some ⟨b7, 0, none⟩))])
      (fun i => [bk b7 29 (cb (valOf D.sure (D.loose.take i) k)), bk p 153 [.slice (some ⟨sb, 0, none⟩) D.sure.length sc, .slice la D.loose.length lc, .int .i64 D.left, .bool D.dark, .int .i64 (D.steps : Int)],
        own 29 128 (some ⟨sb, 0, none⟩) D.sure.length sc (flat D.sure), own 190 129 la D.loose.length lc (flatL D.loose), bk r 29 (cb zblk), exact x])
      (fun i => i ≤ D.loose.length) (fun i => D.loose.length - i) 0 (Nat.zero_le _) ⟨rfl, rfl, rfl, rfl, rfl, trivial⟩ (by repeat (first | exact Sel.nil _ | (apply Sel.cons; (· repeat (first | exact .head _ | apply Pick.tail | apply Upd.tail))))) ?_
    intro i hi
    have hvw : ∀ j, WB (valOf D.sure (D.loose.take j) k) := fun j => valOf_WB h.wb (fun q hq => hlb q (List.mem_of_mem_take hq)) hk
    by_cases hlt : i < D.loose.length
    · have hs := valOf_succ D.sure D.loose k i hlt
      have hb' : WB D.loose[i].2 := hlb _ (by simp)
      repeat (first | refine CX.psA ?_ | refine CX.nil ?_ | refine CQ.thenN ?_ | refine CQ.thenR ?_ | refine CQ.thenX ?_ | refine CQ.blockN ?_ | refine CQ.blockR ?_ | refine CQ.blockX ?_ | refine CQ.blockYA ?_ | refine CC.seq ?_ | refine CC.block ?_ | refine CC.region ?_ | refine CC.skip ?_ | refine CC.ret ?_ | refine CC.exit ?_ | refine CC.condTA ?_ | refine CC.condFA ?_ | refine CC.condDTA ?_ | refine CC.condDFA ?_ | refine CX.storeA ?_ | refine CX.skipA ?_)
      (refine CX.indexOA (i) (by exact hlt) ?_; rintro g rfl)
      repeat (first | refine CX.psA ?_ | refine CX.nil ?_ | refine CQ.thenN ?_ | refine CQ.thenR ?_ | refine CQ.thenX ?_ | refine CQ.blockN ?_ | refine CQ.blockR ?_ | refine CQ.blockX ?_ | refine CQ.blockYA ?_ | refine CC.seq ?_ | refine CC.block ?_ | refine CC.region ?_ | refine CC.skip ?_ | refine CC.ret ?_ | refine CC.exit ?_ | refine CC.condTA ?_ | refine CC.condFA ?_ | refine CC.condDTA ?_ | refine CC.condDFA ?_ | refine CX.storeA ?_ | refine CX.skipA ?_)
      (apply CX.ps; (· apply PS.load (v := .int .i64 (D.loose[i].1 : Int)); (· rfl); (· rfl); (· exact CellAt.own (by repeat (first | exact .head _ | apply Pick.tail | apply Upd.tail)) (flatL_n _ hlb i hlt))))
      by_cases he : D.loose[i].1 = k
      · have he' : (D.loose[i].1 : Int) = k := by omega
        rw [if_pos he] at hs
        repeat (first | refine CX.psA ?_ | refine CX.nil ?_ | refine CQ.thenN ?_ | refine CQ.thenR ?_ | refine CQ.thenX ?_ | refine CQ.blockN ?_ | refine CQ.blockR ?_ | refine CQ.blockX ?_ | refine CQ.blockYA ?_ | refine CC.seq ?_ | refine CC.block ?_ | refine CC.region ?_ | refine CC.skip ?_ | refine CC.ret ?_ | refine CC.exit ?_ | refine CC.condTA ?_ | refine CC.condFA ?_ | refine CC.condDTA ?_ | refine CC.condDFA ?_ | refine CX.storeA ?_ | refine CX.skipA ?_)
        refine CX.indexA (i) (by exact hlt) ?_
        repeat (first | refine CX.psA ?_ | refine CX.nil ?_ | refine CQ.thenN ?_ | refine CQ.thenR ?_ | refine CQ.thenX ?_ | refine CQ.blockN ?_ | refine CQ.blockR ?_ | refine CQ.blockX ?_ | refine CQ.blockYA ?_ | refine CC.seq ?_ | refine CC.block ?_ | refine CC.region ?_ | refine CC.skip ?_ | refine CC.ret ?_ | refine CC.exit ?_ | refine CC.condTA ?_ | refine CC.condFA ?_ | refine CC.condDTA ?_ | refine CC.condDFA ?_ | refine CX.storeA ?_ | refine CX.skipA ?_)
        (apply CX.ps; (· apply PS.loadG (vs := cb D.loose[i].2); (· rfl); (· rfl); (· exact CellsAt.own (by repeat (first | exact .head _ | apply Pick.tail | apply Upd.tail)) (by rw [hb'.len, Nat.zero_add]; exact flatL_b _ hlb i hlt)); (· exact hb'.len)))
        (apply CX.storeAll; (· rfl); (· rfl); (· rfl); (· repeat (first | exact .head _ | apply Pick.tail | apply Upd.tail)); (· exact hb'.len); (· exact (hvw i).len); (· exact one_cb _))
        rw [← hs]
        repeat (first | refine CX.psA ?_ | refine CX.nil ?_ | refine CQ.thenN ?_ | refine CQ.thenR ?_ | refine CQ.thenX ?_ | refine CQ.blockN ?_ | refine CQ.blockR ?_ | refine CQ.blockX ?_ | refine CQ.blockYA ?_ | refine CC.seq ?_ | refine CC.block ?_ | refine CC.region ?_ | refine CC.skip ?_ | refine CC.ret ?_ | refine CC.exit ?_ | refine CC.condTA ?_ | refine CC.condFA ?_ | refine CC.condDTA ?_ | refine CC.condDFA ?_ | refine CX.storeA ?_ | refine CX.skipA ?_)
        exact CQ.round (i + 1) hlt (by omega) ⟨eqI (by omega), rfl, rfl, rfl, rfl, trivial⟩ (by repeat (first | exact Sel.nil _ | (apply Sel.cons; (· repeat (first | exact .head _ | apply Pick.tail | apply Upd.tail)))))
      · have he' : ¬ (D.loose[i].1 : Int) = k := by omega
        rw [if_neg he] at hs
        rw [← hs]
        repeat (first | refine CX.psA ?_ | refine CX.nil ?_ | refine CQ.thenN ?_ | refine CQ.thenR ?_ | refine CQ.thenX ?_ | refine CQ.blockN ?_ | refine CQ.blockR ?_ | refine CQ.blockX ?_ | refine CQ.blockYA ?_ | refine CC.seq ?_ | refine CC.block ?_ | refine CC.region ?_ | refine CC.skip ?_ | refine CC.ret ?_ | refine CC.exit ?_ | refine CC.condTA ?_ | refine CC.condFA ?_ | refine CC.condDTA ?_ | refine CC.condDFA ?_ | refine CX.storeA ?_ | refine CX.skipA ?_)
        exact CQ.round (i + 1) hlt (by omega) ⟨eqI (by omega), rfl, rfl, rfl, rfl, trivial⟩ (by repeat (first | exact Sel.nil _ | (apply Sel.cons; (· repeat (first | exact .head _ | apply Pick.tail | apply Upd.tail)))))
    · obtain rfl : i = D.loose.length := by omega
      have hw := hvw D.loose.length
      rw [List.take_length] at hw ⊢
      rw [hr]
      repeat (first | refine CX.psA ?_ | refine CX.nil ?_ | refine CQ.thenN ?_ | refine CQ.thenR ?_ | refine CQ.thenX ?_ | refine CQ.blockN ?_ | refine CQ.blockR ?_ | refine CQ.blockX ?_ | refine CQ.blockYA ?_ | refine CC.seq ?_ | refine CC.block ?_ | refine CC.region ?_ | refine CC.skip ?_ | refine CC.ret ?_ | refine CC.exit ?_ | refine CC.condTA ?_ | refine CC.condFA ?_ | refine CC.condDTA ?_ | refine CC.condDFA ?_ | refine CX.storeA ?_ | refine CX.skipA ?_)
      ((apply CX.ps; (· apply PS.loadG (vs := cb (valOf D.sure D.loose k)); (· rfl); (· rfl); (· exact CellsAt.all (by repeat (first | exact .head _ | apply Pick.tail | apply Upd.tail))); (· exact hw.len))))
      (apply CX.storeAll; (· rfl); (· rfl); (· rfl); (· repeat (first | exact .head _ | apply Pick.tail | apply Upd.tail)); (· exact hw.len); (· exact WB_z.len); (· exact one_cb _))
      repeat (first | refine CX.psA ?_ | refine CX.nil ?_ | refine CQ.thenN ?_ | refine CQ.thenR ?_ | refine CQ.thenX ?_ | refine CQ.blockN ?_ | refine CQ.blockR ?_ | refine CQ.blockX ?_ | refine CQ.blockYA ?_ | refine CC.seq ?_ | refine CC.block ?_ | refine CC.region ?_ | refine CC.skip ?_ | refine CC.ret ?_ | refine CC.exit ?_ | refine CC.condTA ?_ | refine CC.condFA ?_ | refine CC.condDTA ?_ | refine CC.condDFA ?_ | refine CX.storeA ?_ | refine CX.skipA ?_)
      (refine CQ.shutL (rdisk_eq p D) (_, _, _, _) trivial (by repeat (first | exact Sel.nil _ | (apply Sel.cons; (· repeat (first | exact .head _ | apply Pick.tail | apply Upd.tail))))) ?_)
      ((apply CQ.end2; (· rfl); (· exact .cells inferInstance rfl (CellsAt.all (by repeat (first | exact .head _ | apply Pick.tail | apply Upd.tail))) (hw.len)); (· exact .tmp rfl)); (· exact ⟨rfl, rfl⟩); (· repeat (first | exact Sel.nil _ | (apply Sel.cons; (· repeat (first | exact .head _ | apply Pick.tail | apply Upd.tail))))))
  · repeat (first | refine CX.psA ?_ | refine CX.nil ?_ | refine CQ.thenN ?_ | refine CQ.thenR ?_ | refine CQ.thenX ?_ | refine CQ.blockN ?_ | refine CQ.blockR ?_ | refine CQ.blockX ?_ | refine CQ.blockYA ?_ | refine CC.seq ?_ | refine CC.block ?_ | refine CC.region ?_ | refine CC.skip ?_ | refine CC.ret ?_ | refine CC.exit ?_ | refine CC.condTA ?_ | refine CC.condFA ?_ | refine CC.condDTA ?_ | refine CC.condDFA ?_ | refine CX.storeA ?_ | refine CX.skipA ?_)
    (apply CX.ps; (· apply PS.buildZ (vs := cb zblk); (· rfl); (· simp [cb_z, Value.cells])))
    repeat (first | refine CX.psA ?_ | refine CX.nil ?_ | refine CQ.thenN ?_ | refine CQ.thenR ?_ | refine CQ.thenX ?_ | refine CQ.blockN ?_ | refine CQ.blockR ?_ | refine CQ.blockX ?_ | refine CQ.blockYA ?_ | refine CC.seq ?_ | refine CC.block ?_ | refine CC.region ?_ | refine CC.skip ?_ | refine CC.ret ?_ | refine CC.exit ?_ | refine CC.condTA ?_ | refine CC.condFA ?_ | refine CC.condDTA ?_ | refine CC.condDFA ?_ | refine CX.storeA ?_ | refine CX.skipA ?_)
    (apply CX.storeAll; (· rfl); (· rfl); (· rfl); (· repeat (first | exact .head _ | apply Pick.tail | apply Upd.tail)); (· exact WB_z.len); (· exact WB_z.len); (· exact one_cb _))
    repeat (first | refine CX.psA ?_ | refine CX.nil ?_ | refine CQ.thenN ?_ | refine CQ.thenR ?_ | refine CQ.thenX ?_ | refine CQ.blockN ?_ | refine CQ.blockR ?_ | refine CQ.blockX ?_ | refine CQ.blockYA ?_ | refine CC.seq ?_ | refine CC.block ?_ | refine CC.region ?_ | refine CC.skip ?_ | refine CC.ret ?_ | refine CC.exit ?_ | refine CC.condTA ?_ | refine CC.condFA ?_ | refine CC.condDTA ?_ | refine CC.condDFA ?_ | refine CX.storeA ?_ | refine CX.skipA ?_)
    ((apply CQ.end2; (· rfl); (· exact .cells inferInstance rfl (CellsAt.all (by repeat (first | exact .head _ | apply Pick.tail | apply Upd.tail))) (WB_z.len)); (· exact .tmp rfl)); (· exact ⟨by simp [DS.read, h0], rfl⟩); (· repeat (first | exact Sel.nil _ | (apply Sel.cons; (· repeat (first | exact .head _ | apply Pick.tail | apply Upd.tail))))))
theorem rcrash_c (p : Nat) (D : DS) (picks : List Int) (a : Option Addr) (c : Nat) {N : Nat} (h : D.wf N) (hN : N < 1000000) : Ctr Try.prog 113 [.pointer (some ⟨p, 0, none⟩), .slice a picks.length c] [rdisk p D] (rdx a picks.length (picks.map (Value.int .i64))) (fun v M => v = .int .i64 0 ∧ M = [rdisk p (D.crash picks)]) := by
  have hlo := h.loose
  have hlb : ∀ p ∈ D.loose, WB p.2 := fun p hp => (h.lb p hp).2
  refine Ctr.intro Try.func113 rfl Try.ntmps113 rfl fun x w hp => ?_
  (refine CC.openL (rdisk_eq p _) (by repeat (first | exact .head _ | apply Pick.tail | apply Upd.tail)) ?_; rintro ⟨sb, sc, la, lc⟩ -)
  repeat (first | refine CX.psA ?_ | refine CX.nil ?_ | refine CQ.thenN ?_ | refine CQ.thenR ?_ | refine CQ.thenX ?_ | refine CQ.blockN ?_ | refine CQ.blockR ?_ | refine CQ.blockX ?_ | refine CQ.blockYA ?_ | refine CC.seq ?_ | refine CC.block ?_ | refine CC.region ?_ | refine CC.skip ?_ | refine CC.ret ?_ | refine CC.exit ?_ | refine CC.condTA ?_ | refine CC.condFA ?_ | refine CC.condDTA ?_ | refine CC.condDFA ?_ | refine CX.storeA ?_ | refine CX.skipA ?_)
  refine CC.loop (X := Nat) (fun i => [(5, .int .i64 (i : Int)), (0, .pointer (some ⟨p, 0, none⟩)), (1, .slice a picks.length c)])
    (fun i => [bk p 153 [.slice (some ⟨sb, 0, none⟩) D.sure.length sc, .slice la D.loose.length lc, .int .i64 D.left, .bool D.dark, .int .i64 (D.steps : Int)],
      own 29 128 (some ⟨sb, 0, none⟩) D.sure.length sc (flat (settleL D.sure picks 0 0 (D.loose.take i))), own 190 129 la D.loose.length lc (flatL D.loose), exact x])
    (fun i => i ≤ D.loose.length) (fun i => D.loose.length - i) 0 (Nat.zero_le _) ⟨rfl, rfl, rfl, trivial⟩ (by repeat (first | exact Sel.nil _ | (apply Sel.cons; (· repeat (first | exact .head _ | apply Pick.tail | apply Upd.tail))))) ?_
  intro i hi
  by_cases hlt : i < D.loose.length
  · have hwb := hlb D.loose[i] (by simp)
    have hin := (h.lb D.loose[i] (by simp)).1
    have hSw := settleL_WB picks 0 (D.loose.take i) D.sure 0 h.wb (fun q hq => h.lb q (List.mem_of_mem_take hq))
    have hSl' : (settleL D.sure picks 0 0 (D.loose.take i)).length = D.sure.length := length_settleL _ _ _ _ _
    have hsnoc : settleL D.sure picks 0 0 (D.loose.take (i + 1)) = (settleL D.sure picks 0 0 (D.loose.take i)).set D.loose[i].1 (torn ((settleL D.sure picks 0 0 (D.loose.take i)).getD D.loose[i].1 []) D.loose[i].2 (pickAt picks 0 i)) := by
      rw [List.take_succ_eq_append_getElem hlt, settleL_snoc, List.length_take, Nat.zero_add, Nat.min_eq_left hi]
    generalize settleL D.sure picks 0 0 (D.loose.take i) = SS at *
    refine CC.fact (p := ∃ g, la = some ⟨g, 0, none⟩) (fun h hs => ?_) fun hla => ?_
    · rcases own_some (Pick.ok (show Pick (own 190 129 la D.loose.length lc (flatL D.loose)) _ _ from by repeat (first | exact .head _ | apply Pick.tail | apply Upd.tail)) hs) with ⟨_, h0, _⟩ | hh
      · omega
      · exact hh
    obtain ⟨g, rfl⟩ := hla
    repeat (first | refine CX.psA ?_ | refine CX.nil ?_ | refine CQ.thenN ?_ | refine CQ.thenR ?_ | refine CQ.thenX ?_ | refine CQ.blockN ?_ | refine CQ.blockR ?_ | refine CQ.blockX ?_ | refine CQ.blockYA ?_ | refine CC.seq ?_ | refine CC.block ?_ | refine CC.region ?_ | refine CC.skip ?_ | refine CC.ret ?_ | refine CC.exit ?_ | refine CC.condTA ?_ | refine CC.condFA ?_ | refine CC.condDTA ?_ | refine CC.condDFA ?_ | refine CX.storeA ?_ | refine CX.skipA ?_)
    refine CC.join (X := Int) (fun z => [(6, .int .i64 z), (5, .int .i64 (i : Int)), (0, .pointer (some ⟨p, 0, none⟩)), (1, .slice a picks.length c)])
      (fun z => [bk p 153 [.slice (some ⟨sb, 0, none⟩) D.sure.length sc, .slice (some ⟨g, 0, none⟩) D.loose.length lc, .int .i64 D.left, .bool D.dark, .int .i64 (D.steps : Int)],
      own 29 128 (some ⟨sb, 0, none⟩) D.sure.length sc (flat SS), own 190 129 (some ⟨g, 0, none⟩) D.loose.length lc (flatL D.loose), exact x]) (fun z => (min (max z 0) 128).toNat = pickAt picks 0 i) ?_ ?_
    · by_cases hpk : i < picks.length
      · rcases hp with h0 | ⟨pg, off, cs, pt, fr, rfl, hx, hcs⟩
        · omega
        have hz : picks[i]? = some picks[i] := by simp [hpk]
        repeat (first | refine CX.psA ?_ | refine CX.nil ?_ | refine CQ.thenN ?_ | refine CQ.thenR ?_ | refine CQ.thenX ?_ | refine CQ.blockN ?_ | refine CQ.blockR ?_ | refine CQ.blockX ?_ | refine CQ.blockYA ?_ | refine CC.seq ?_ | refine CC.block ?_ | refine CC.region ?_ | refine CC.skip ?_ | refine CC.ret ?_ | refine CC.exit ?_ | refine CC.condTA ?_ | refine CC.condFA ?_ | refine CC.condDTA ?_ | refine CC.condDFA ?_ | refine CX.storeA ?_ | refine CX.skipA ?_)
        refine CX.indexA (i) (by exact hpk) ?_
        (apply CX.ps; (· apply PS.load (v := .int .i64 picks[i]); (· rfl); (· rfl); (· exact CellAt.exact (by repeat (first | exact .head _ | apply Pick.tail | apply Upd.tail)) ⟨cs, pt, fr, hx, by rw [Nat.mul_one]; exact hcs i _ (by simp [hpk])⟩)))
        repeat (first | refine CX.psA ?_ | refine CX.nil ?_ | refine CQ.thenN ?_ | refine CQ.thenR ?_ | refine CQ.thenX ?_ | refine CQ.blockN ?_ | refine CQ.blockR ?_ | refine CQ.blockX ?_ | refine CQ.blockYA ?_ | refine CC.seq ?_ | refine CC.block ?_ | refine CC.region ?_ | refine CC.skip ?_ | refine CC.ret ?_ | refine CC.exit ?_ | refine CC.condTA ?_ | refine CC.condFA ?_ | refine CC.condDTA ?_ | refine CC.condDFA ?_ | refine CX.storeA ?_ | refine CX.skipA ?_)
        exact CQ.joined picks[i] (by simp only [pickAt, hz]) ⟨rfl, rfl, rfl, rfl, trivial⟩ (by repeat (first | exact Sel.nil _ | (apply Sel.cons; (· repeat (first | exact .head _ | apply Pick.tail | apply Upd.tail)))))
      · have hz : picks[i]? = none := by simp; omega
        repeat (first | refine CX.psA ?_ | refine CX.nil ?_ | refine CQ.thenN ?_ | refine CQ.thenR ?_ | refine CQ.thenX ?_ | refine CQ.blockN ?_ | refine CQ.blockR ?_ | refine CQ.blockX ?_ | refine CQ.blockYA ?_ | refine CC.seq ?_ | refine CC.block ?_ | refine CC.region ?_ | refine CC.skip ?_ | refine CC.ret ?_ | refine CC.exit ?_ | refine CC.condTA ?_ | refine CC.condFA ?_ | refine CC.condDTA ?_ | refine CC.condDFA ?_ | refine CX.storeA ?_ | refine CX.skipA ?_)
        exact CQ.joined 0 (by simp only [pickAt, hz]; rfl) ⟨rfl, rfl, rfl, rfl, trivial⟩ (by repeat (first | exact Sel.nil _ | (apply Sel.cons; (· repeat (first | exact .head _ | apply Pick.tail | apply Upd.tail)))))
    · intro z hz
      have hg1 : WB (SS.getD D.loose[i].1 []) := getD_WB hSw (by omega)
      refine CC.draw [(0, 0), (1, 0), (2, 0), (3, 1), (4, 0), (5, 0), (6, 0), (7, 1), (8, 0), (9, 0), (10, 0), (11, 1), (12, 0), (13, 0), (14, 0), (15, 1), (16, 0), (17, 0), (18, 0), (19, 1), (20, 0), (21, 0), (22, 0), (23, 1), (24, 0), (25, 1), (26, 0), (27, 0), (28, 0), (29, 1), (30, 0), (31, 0), (32, 0), (33, 1), (34, 0), (35, 2), (36, 0), (37, 3)] mixed rfl (by kernel_rfl) (by kernel_rfl) [bk p 153 [.slice (some ⟨sb, 0, none⟩) D.sure.length sc, .slice (some ⟨g, 0, none⟩) D.loose.length lc, .int .i64 D.left, .bool D.dark, .int .i64 (D.steps : Int)], own 29 128 (some ⟨sb, 0, none⟩) D.sure.length sc (flat SS), own 190 129 (some ⟨g, 0, none⟩) D.loose.length lc (flatL D.loose)] ?_
      repeat (first | refine CH.pureA ?_ | refine CH.readA ?_ | refine CH.skA ?_ | refine CH.skCA ?_ | refine CH.nil ?_)
      (apply CH.pure; (· rfl); (· apply PS.indexAddr (j := i); (· rfl); (· rfl); (· rfl); (· rfl); (· exact hlt)))
      repeat (first | refine CH.pureA ?_ | refine CH.readA ?_ | refine CH.skA ?_ | refine CH.skCA ?_ | refine CH.nil ?_)
      (apply CH.read; (· rfl); (· apply PS.load (v := .int .i64 (D.loose[i].1 : Int)); (· rfl); (· rfl); (· exact CellAt.own (by repeat (first | exact .head _ | apply Pick.tail | apply Upd.tail)) (by rw [Nat.zero_add, Nat.add_zero]; exact flatL_n _ hlb i hlt))); (· repeat (first | exact Sel.nil _ | (apply Sel.cons; (· repeat (first | exact .head _ | apply Pick.tail | apply Upd.tail))))))
      repeat (first | refine CH.pureA ?_ | refine CH.readA ?_ | refine CH.skA ?_ | refine CH.skCA ?_ | refine CH.nil ?_)
      (apply CH.pure; (· rfl); (· apply PS.indexAddr (j := i); (· rfl); (· rfl); (· rfl); (· rfl); (· exact hlt)))
      repeat (first | refine CH.pureA ?_ | refine CH.readA ?_ | refine CH.skA ?_ | refine CH.skCA ?_ | refine CH.nil ?_)
      (apply CH.read; (· rfl); (· apply PS.load (v := .int .i64 (D.loose[i].1 : Int)); (· rfl); (· rfl); (· exact CellAt.own (by repeat (first | exact .head _ | apply Pick.tail | apply Upd.tail)) (by rw [Nat.zero_add, Nat.add_zero]; exact flatL_n _ hlb i hlt))); (· repeat (first | exact Sel.nil _ | (apply Sel.cons; (· repeat (first | exact .head _ | apply Pick.tail | apply Upd.tail))))))
      (apply CH.pure; (· rfl); (· apply PS.indexAddr (j := D.loose[i].1); (· rfl); (· rfl); (· rfl); (· rfl); (· exact hin)))
      (apply CH.read; (· rfl); (· apply PS.loadG (vs := cb (SS.getD D.loose[i].1 [])); (· rfl); (· rfl); (· exact CellsAt.own (by repeat (first | exact .head _ | apply Pick.tail | apply Upd.tail)) (flat_get hSw (by omega))); (· exact hg1.len)); (· repeat (first | exact Sel.nil _ | (apply Sel.cons; (· repeat (first | exact .head _ | apply Pick.tail | apply Upd.tail))))))
      repeat (first | refine CH.pureA ?_ | refine CH.readA ?_ | refine CH.skA ?_ | refine CH.skCA ?_ | refine CH.nil ?_)
      (apply CH.pure; (· rfl); (· apply PS.indexAddr (j := i); (· rfl); (· rfl); (· rfl); (· rfl); (· exact hlt)))
      repeat (first | refine CH.pureA ?_ | refine CH.readA ?_ | refine CH.skA ?_ | refine CH.skCA ?_ | refine CH.nil ?_)
      (apply CH.read; (· rfl); (· apply PS.loadG (vs := cb D.loose[i].2); (· rfl); (· rfl); (· exact CellsAt.own (by repeat (first | exact .head _ | apply Pick.tail | apply Upd.tail)) (by rw [hwb.len, Nat.zero_add]; exact flatL_b _ hlb i hlt)); (· exact hwb.len)); (· repeat (first | exact Sel.nil _ | (apply Sel.cons; (· repeat (first | exact .head _ | apply Pick.tail | apply Upd.tail))))))
      repeat (first | refine CH.pureA ?_ | refine CH.readA ?_ | refine CH.skA ?_ | refine CH.skCA ?_ | refine CH.nil ?_)
      refine CH.chain rfl fun K hK => ?_
      refine CX.callA (rtorn_c (SS.getD D.loose[i].1 []) D.loose[i].2 hg1 hwb z) ?_
      rintro _ _ ⟨rfl, rfl⟩
      rw [hz]
      (refine CX.nil ?_; refine CQ.thenK ?_; apply hK; (· repeat (first | exact Sel.nil _ | (apply Sel.cons; (· repeat (first | exact .head _ | apply Pick.tail | apply Upd.tail))))); clear hK K)
      (apply CH.pure; (· rfl); (· apply PS.indexAddr (j := D.loose[i].1); (· rfl); (· rfl); (· rfl); (· rfl); (· exact hin)))
      have hpm : pickAt picks 0 i ≤ 128 := by simp only [pickAt]; split <;> omega
      have htw := torn_WB (n := pickAt picks 0 i) hg1 hwb
      refine CH.tail rfl rfl fun K hK => ?_
      apply CX.storeOwn (v := .agg (cb (torn (SS.getD D.loose[i].1 []) D.loose[i].2 (pickAt picks 0 i))).toArray)
      · rfl
      · rfl
      · rfl
      · show (cb _).toArray.size = 128
        rw [List.size_toArray]; exact htw.len
      · simpa [Value.cells] using one_cb _
      · repeat (first | exact .head _ | apply Pick.tail | apply Upd.tail)
      · omega
      have e1 : setL (flat SS) (0 + D.loose[i].1 * 128) (Value.agg (cb (torn (SS.getD D.loose[i].1 []) D.loose[i].2 (pickAt picks 0 i))).toArray).cells.toList = flat (settleL D.sure picks 0 0 (D.loose.take (i + 1))) := by
        have := flat_set hSw (k := D.loose[i].1) (by omega) (torn (SS.getD D.loose[i].1 []) D.loose[i].2 (pickAt picks 0 i)) 128 (Nat.le_refl _) htw
        rw [List.take_of_length_le (by rw [htw]; omega)] at this
        have e3 := torn_all hg1 htw
        rw [e3] at this
        rw [hsnoc, ← this, Nat.zero_add]; rfl
      rw [e1]
      clear e1
      (refine CX.nil ?_; refine CQ.thenK ?_; apply hK; clear hK K)
      repeat (first | refine CH.pureA ?_ | refine CH.readA ?_ | refine CH.skA ?_ | refine CH.skCA ?_ | refine CH.nil ?_)
      repeat (first | refine CX.psA ?_ | refine CX.nil ?_ | refine CQ.thenN ?_ | refine CQ.thenR ?_ | refine CQ.thenX ?_ | refine CQ.blockN ?_ | refine CQ.blockR ?_ | refine CQ.blockX ?_ | refine CQ.blockYA ?_ | refine CC.seq ?_ | refine CC.block ?_ | refine CC.region ?_ | refine CC.skip ?_ | refine CC.ret ?_ | refine CC.exit ?_ | refine CC.condTA ?_ | refine CC.condFA ?_ | refine CC.condDTA ?_ | refine CC.condDFA ?_ | refine CX.storeA ?_ | refine CX.skipA ?_)
      exact CQ.round (i + 1) hlt (by omega) ⟨eqI (by omega), rfl, rfl, trivial⟩ (by repeat (first | exact Sel.nil _ | (apply Sel.cons; (· repeat (first | exact .head _ | apply Pick.tail | apply Upd.tail)))))
  · obtain rfl : i = D.loose.length := by omega
    repeat (first | refine CX.psA ?_ | refine CX.nil ?_ | refine CQ.thenN ?_ | refine CQ.thenR ?_ | refine CQ.thenX ?_ | refine CQ.blockN ?_ | refine CQ.blockR ?_ | refine CQ.blockX ?_ | refine CQ.blockYA ?_ | refine CC.seq ?_ | refine CC.block ?_ | refine CC.region ?_ | refine CC.skip ?_ | refine CC.ret ?_ | refine CC.exit ?_ | refine CC.condTA ?_ | refine CC.condFA ?_ | refine CC.condDTA ?_ | refine CC.condDFA ?_ | refine CX.storeA ?_ | refine CX.skipA ?_)
    refine CQ.ownNil 190 129 ?_
    have e2 : D.sure.length = (D.crash picks).sure.length := by simp [DS.crash, DS.settle, length_settleL]
    rw [e2, List.take_length]
    (refine CQ.shutL (rdisk_eq p (D.crash picks)) (_, _, _, _) trivial (by repeat (first | exact Sel.nil _ | (apply Sel.cons; (· repeat (first | exact .head _ | apply Pick.tail | apply Upd.tail))))) ?_)
    ((apply CQ.end1; (· rfl); (· exact .tmp rfl)); (· exact ⟨rfl, rfl⟩); (· repeat (first | exact Sel.nil _ | (apply Sel.cons; (· repeat (first | exact .head _ | apply Pick.tail | apply Upd.tail))))))
theorem rrot_c (p : Nat) (D : DS) (n at_ : Int) (y : UInt8) {N : Nat} (h : D.wf N) (hN : N < 1000000) : Ctr Try.prog 115 [.pointer (some ⟨p, 0, none⟩), .int .i64 n, .int .i64 at_, .int .u8 y.toNat] [rdisk p D] (fun _ => True) (fun v M => v = .int .i64 (D.rot n at_ y).1 ∧ M = [rdisk p (D.rot n at_ y).2]) := by
  refine Ctr.intro Try.func115 rfl Try.ntmps115 rfl fun x w hp => ?_
  (refine CC.openL (rdisk_eq p _) (by repeat (first | exact .head _ | apply Pick.tail | apply Upd.tail)) ?_; rintro ⟨sb, sc, la, lc⟩ -)
  by_cases hn : n < 0
  · have e : D.rot n at_ y = (2, D) := by
      have : D.there n = 2 := by unfold DS.there errOf; rw [if_neg (by omega)]
      simp [DS.rot, this]
    rw [e]
    repeat (first | refine CX.psA ?_ | refine CX.nil ?_ | refine CQ.thenN ?_ | refine CQ.thenR ?_ | refine CQ.thenX ?_ | refine CQ.blockN ?_ | refine CQ.blockR ?_ | refine CQ.blockX ?_ | refine CQ.blockYA ?_ | refine CC.seq ?_ | refine CC.block ?_ | refine CC.region ?_ | refine CC.skip ?_ | refine CC.ret ?_ | refine CC.exit ?_ | refine CC.condTA ?_ | refine CC.condFA ?_ | refine CC.condDTA ?_ | refine CC.condDFA ?_ | refine CX.storeA ?_ | refine CX.skipA ?_)
    (refine CQ.shutL (rdisk_eq p D) (_, _, _, _) trivial (by repeat (first | exact Sel.nil _ | (apply Sel.cons; (· repeat (first | exact .head _ | apply Pick.tail | apply Upd.tail))))) ?_)
    ((apply CQ.end1; (· rfl); (· exact .tmp rfl)); (· exact ⟨rfl, rfl⟩); (· repeat (first | exact Sel.nil _ | (apply Sel.cons; (· repeat (first | exact .head _ | apply Pick.tail | apply Upd.tail))))))
  by_cases hn2 : (D.sure.length : Int) ≤ n
  · have e : D.rot n at_ y = (2, D) := by
      have : D.there n = 2 := by unfold DS.there errOf; rw [if_neg (by omega)]
      simp [DS.rot, this]
    rw [e]
    repeat (first | refine CX.psA ?_ | refine CX.nil ?_ | refine CQ.thenN ?_ | refine CQ.thenR ?_ | refine CQ.thenX ?_ | refine CQ.blockN ?_ | refine CQ.blockR ?_ | refine CQ.blockX ?_ | refine CQ.blockYA ?_ | refine CC.seq ?_ | refine CC.block ?_ | refine CC.region ?_ | refine CC.skip ?_ | refine CC.ret ?_ | refine CC.exit ?_ | refine CC.condTA ?_ | refine CC.condFA ?_ | refine CC.condDTA ?_ | refine CC.condDFA ?_ | refine CX.storeA ?_ | refine CX.skipA ?_)
    (refine CQ.shutL (rdisk_eq p D) (_, _, _, _) trivial (by repeat (first | exact Sel.nil _ | (apply Sel.cons; (· repeat (first | exact .head _ | apply Pick.tail | apply Upd.tail))))) ?_)
    ((apply CQ.end1; (· rfl); (· exact .tmp rfl)); (· exact ⟨rfl, rfl⟩); (· repeat (first | exact Sel.nil _ | (apply Sel.cons; (· repeat (first | exact .head _ | apply Pick.tail | apply Upd.tail))))))
  have h0 : D.there n = 0 := by unfold DS.there errOf; rw [if_pos (by omega)]
  obtain ⟨k, rfl, hk⟩ := there_ok h0
  by_cases h1 : at_ < 0
  · have e : D.rot k at_ y = (2, D) := by simp [DS.rot, h0, h1]
    rw [e]
    repeat (first | refine CX.psA ?_ | refine CX.nil ?_ | refine CQ.thenN ?_ | refine CQ.thenR ?_ | refine CQ.thenX ?_ | refine CQ.blockN ?_ | refine CQ.blockR ?_ | refine CQ.blockX ?_ | refine CQ.blockYA ?_ | refine CC.seq ?_ | refine CC.block ?_ | refine CC.region ?_ | refine CC.skip ?_ | refine CC.ret ?_ | refine CC.exit ?_ | refine CC.condTA ?_ | refine CC.condFA ?_ | refine CC.condDTA ?_ | refine CC.condDFA ?_ | refine CX.storeA ?_ | refine CX.skipA ?_)
    (refine CQ.shutL (rdisk_eq p D) (_, _, _, _) trivial (by repeat (first | exact Sel.nil _ | (apply Sel.cons; (· repeat (first | exact .head _ | apply Pick.tail | apply Upd.tail))))) ?_)
    ((apply CQ.end1; (· rfl); (· exact .tmp rfl)); (· exact ⟨rfl, rfl⟩); (· repeat (first | exact Sel.nil _ | (apply Sel.cons; (· repeat (first | exact .head _ | apply Pick.tail | apply Upd.tail))))))
  by_cases h2 : 128 ≤ at_
  · have e : D.rot k at_ y = (2, D) := by simp [DS.rot, h0, h2]
    rw [e]
    repeat (first | refine CX.psA ?_ | refine CX.nil ?_ | refine CQ.thenN ?_ | refine CQ.thenR ?_ | refine CQ.thenX ?_ | refine CQ.blockN ?_ | refine CQ.blockR ?_ | refine CQ.blockX ?_ | refine CQ.blockYA ?_ | refine CC.seq ?_ | refine CC.block ?_ | refine CC.region ?_ | refine CC.skip ?_ | refine CC.ret ?_ | refine CC.exit ?_ | refine CC.condTA ?_ | refine CC.condFA ?_ | refine CC.condDTA ?_ | refine CC.condDFA ?_ | refine CX.storeA ?_ | refine CX.skipA ?_)
    (refine CQ.shutL (rdisk_eq p D) (_, _, _, _) trivial (by repeat (first | exact Sel.nil _ | (apply Sel.cons; (· repeat (first | exact .head _ | apply Pick.tail | apply Upd.tail))))) ?_)
    ((apply CQ.end1; (· rfl); (· exact .tmp rfl)); (· exact ⟨rfl, rfl⟩); (· repeat (first | exact Sel.nil _ | (apply Sel.cons; (· repeat (first | exact .head _ | apply Pick.tail | apply Upd.tail))))))
  obtain ⟨q, rfl⟩ : ∃ q : Nat, at_ = q := ⟨at_.toNat, by omega⟩
  have e : D.rot k q y = (0, { D with sure := D.sure.set k ((D.sure.getD k []).set q ((D.sure.getD k []).getD q 0 ^^^ y)) }) := by simp [DS.rot, h0, h1, h2]
  repeat (first | refine CX.psA ?_ | refine CX.nil ?_ | refine CQ.thenN ?_ | refine CQ.thenR ?_ | refine CQ.thenX ?_ | refine CQ.blockN ?_ | refine CQ.blockR ?_ | refine CQ.blockX ?_ | refine CQ.blockYA ?_ | refine CC.seq ?_ | refine CC.block ?_ | refine CC.region ?_ | refine CC.skip ?_ | refine CC.ret ?_ | refine CC.exit ?_ | refine CC.condTA ?_ | refine CC.condFA ?_ | refine CC.condDTA ?_ | refine CC.condDFA ?_ | refine CX.storeA ?_ | refine CX.skipA ?_)
  refine CC.draw [(0, 0), (1, 0), (2, 0), (3, 1), (4, 0), (5, 0), (6, 0), (7, 0), (8, 0), (9, 1), (10, 0), (11, 0), (12, 0), (13, 0), (14, 1), (15, 0), (16, 0), (17, 0), (18, 0), (19, 3)] mixed rfl (by kernel_rfl) (by kernel_rfl) [bk p 153 [.slice (some ⟨sb, 0, none⟩) D.sure.length sc, .slice la D.loose.length lc, .int .i64 D.left, .bool D.dark, .int .i64 (D.steps : Int)], own 29 128 (some ⟨sb, 0, none⟩) D.sure.length sc (flat D.sure)] ?_
  repeat (first | refine CH.pureA ?_ | refine CH.readA ?_ | refine CH.skA ?_ | refine CH.skCA ?_ | refine CH.nil ?_)
  have hb : WB D.sure[k] := h.wb _ (by simp)
  have hq : q < 128 := by omega
  have hg : D.sure.getD k [] = D.sure[k] := by simp [hk]
  have hgq : (D.sure[k] : Blk).getD q 0 = D.sure[k][q]'(by rw [hb]; exact hq) := by simp [show q < (D.sure[k] : Blk).length by rw [hb]; exact hq]
  have hv : (flat D.sure)[0 + k * 128 + q * 1]? = some (.int .u8 (((D.sure[k] : Blk).getD q 0).toNat : Int)) := by
    have := rows_at cb 128 D.sure (fun x hx => (h.wb x hx).len) k hk q hq
    rw [Nat.zero_add, Nat.mul_one, flat, this, hgq, cb_get _ _ (by rw [hb]; exact hq)]
  rw [hg] at e
  have e1 := flat_set1 h.wb hk hq ((D.sure[k] : Blk).getD q 0 ^^^ y)
  rw [hg] at e1
  generalize (D.sure[k] : Blk).getD q 0 = old at hv e e1
  (apply CH.pure; (· rfl); (· apply PS.indexAddr (j := k); (· rfl); (· rfl); (· rfl); (· rfl); (· exact hk)))
  (apply CH.pure; (· rfl); (· apply PS.indexArr (j := q); (· rfl); (· rfl); (· rfl); (· rfl); (· exact hq)))
  (apply CH.read; (· rfl); (· apply PS.load (v := .int .u8 (old.toNat : Int)); (· rfl); (· rfl); (· exact CellAt.own (by repeat (first | exact .head _ | apply Pick.tail | apply Upd.tail)) hv)); (· repeat (first | exact Sel.nil _ | (apply Sel.cons; (· repeat (first | exact .head _ | apply Pick.tail | apply Upd.tail))))))
  repeat (first | refine CH.pureA ?_ | refine CH.readA ?_ | refine CH.skA ?_ | refine CH.skCA ?_ | refine CH.nil ?_)
  (apply CH.pure; (· rfl); (· apply PS.xorN (k := .u8) old.toNat y.toNat rfl (UInt8.toNat_lt old) (UInt8.toNat_lt y) <;> rfl))
  (apply CH.pure; (· rfl); (· apply PS.indexAddr (j := k); (· rfl); (· rfl); (· rfl); (· rfl); (· exact hk)))
  (apply CH.pure; (· rfl); (· apply PS.indexArr (j := q); (· rfl); (· rfl); (· rfl); (· rfl); (· exact hq)))
  refine CH.tail rfl rfl fun K hK => ?_
  apply CX.storeOwn (v := .int .u8 ((old ^^^ y).toNat : Int))
  · rfl
  · rfl
  · rw [UInt8.toNat_xor]; rfl
  · rfl
  · intro u hu; simp [Value.cells] at hu; rw [hu]; rfl
  · repeat (first | exact .head _ | apply Pick.tail | apply Upd.tail)
  · omega
  (refine CX.nil ?_; refine CQ.thenK ?_; apply hK; clear hK K)
  repeat (first | refine CH.pureA ?_ | refine CH.readA ?_ | refine CH.skA ?_ | refine CH.skCA ?_ | refine CH.nil ?_)
  repeat (first | refine CX.psA ?_ | refine CX.nil ?_ | refine CQ.thenN ?_ | refine CQ.thenR ?_ | refine CQ.thenX ?_ | refine CQ.blockN ?_ | refine CQ.blockR ?_ | refine CQ.blockX ?_ | refine CQ.blockYA ?_ | refine CC.seq ?_ | refine CC.block ?_ | refine CC.region ?_ | refine CC.skip ?_ | refine CC.ret ?_ | refine CC.exit ?_ | refine CC.condTA ?_ | refine CC.condFA ?_ | refine CC.condDTA ?_ | refine CC.condDFA ?_ | refine CX.storeA ?_ | refine CX.skipA ?_)
  have e2 : setL (flat D.sure) (0 + k * 128 + q * 1) (Value.int .u8 ((old ^^^ y).toNat : Int)).cells.toList = flat (D.sure.set k (List.set (D.sure[k] : Blk) q (old ^^^ y))) := by
    rw [Nat.zero_add, Nat.mul_one]; exact e1
  have e3 : D.sure.length = (D.sure.set k (List.set (D.sure[k] : Blk) q (old ^^^ y))).length := by simp
  rw [e2, e, e3]
  (refine CQ.shutL (rdisk_eq p ({ D with sure := D.sure.set k (List.set (D.sure[k] : Blk) q (old ^^^ y)) })) (sb, sc, la, lc) trivial (by repeat (first | exact Sel.nil _ | (apply Sel.cons; (· repeat (first | exact .head _ | apply Pick.tail | apply Upd.tail))))) ?_)
  ((apply CQ.end1; (· rfl); (· exact .tmp rfl)); (· exact ⟨rfl, rfl⟩); (· repeat (first | exact Sel.nil _ | (apply Sel.cons; (· repeat (first | exact .head _ | apply Pick.tail | apply Upd.tail))))))
end Go.Proofs.Ytlckhaodecdbbaa
