/- What the statement DiskAll does, step by step. -/
import Derived.Test.YtlckhaodecdbbaaL4b
import Derived.Test.YtlckhaodecdbbaaDr
set_option linter.unusedVariables false
set_option linter.unusedSimpArgs false
namespace Go.Proofs.Ytlckhaodecdbbaa
open Go.Cx
attribute [local irreducible] Go.Cx.CX Go.Cx.CC Go.Cx.CQ Go.Cx.PS Go.Cx.Ctr Go.Cx.CH
set_option maxRecDepth 10000

theorem settle_none (l : List (Nat × Blk)) : ∀ (S : List Blk) (i : Nat), settleL S [] 0 i l = S := by
  induction l with
  | nil => intro S i; rfl
  | cons q l ih =>
    intro S i
    have e : S.set q.1 (torn (S.getD q.1 []) q.2 (pickAt [] 0 i)) = S := by
      apply List.ext_getElem?
      intro j
      simp only [pickAt, torn, List.getElem?_nil, List.take_zero, List.drop_zero, List.nil_append, List.getElem?_set]
      split
      · rename_i hj; subst hj
        split
        · rename_i h; simp [h]
        · rename_i h; simp only [Nat.not_lt] at h; simp [h]
      · rfl
    simp only [settleL]; rw [e]; exact ih S _
theorem lastOf_snoc (l : List (Nat × Blk)) (p : Nat × Blk) (k : Nat) : lastOf (l ++ [p]) k = if p.1 = k then some p else lastOf l k := by
  have := lastOf_succ (l ++ [p]) k l.length (by simp)
  rw [List.take_of_length_le (by simp)] at this
  simpa using this
def valOf (S : List Blk) (l : List (Nat × Blk)) (k : Nat) : Blk := match lastOf l k with | some p => p.2 | none => S.getD k []
theorem settle_full (picks : List Int) (o : Nat) (S : List Blk) (hS : ∀ b ∈ S, WB b) (k : Nat) : ∀ (m : Nat) (l : List (Nat × Blk)), l.length = m → (∀ p ∈ l, p.1 < S.length ∧ WB p.2) → (∀ j, j < m → pickAt picks o j = 128) →
    (settleL S picks o 0 l).getD k [] = valOf S l k := by
  intro m
  induction m with
  | zero => intro l h _ _; obtain rfl := List.length_eq_zero_iff.1 h; rfl
  | succ m ih =>
    intro l h hl hp
    obtain ⟨l', p, rfl⟩ : ∃ l' p, l = l' ++ [p] := by
      have hne : l ≠ [] := by intro e; subst e; simp at h
      exact ⟨l.dropLast, l.getLast hne, (List.dropLast_concat_getLast hne).symm⟩
    have hm : l'.length = m := by simpa using h
    have hl' : ∀ q ∈ l', q.1 < S.length ∧ WB q.2 := fun q hq => hl q (by simp [hq])
    obtain ⟨hp1, hp2⟩ := hl p (by simp)
    have e := ih l' hm hl' fun j hj => hp j (by omega)
    have ht : ∀ old, WB old → torn old p.2 128 = p.2 := fun old ho => by
      unfold torn; rw [List.take_of_length_le (by rw [hp2]; omega), List.drop_of_length_le (by rw [ho]; omega)]; simp
    have hw := settleL_WB picks o l' S 0 hS hl'
    have hlen := length_settleL picks o l' S 0
    rw [settleL_snoc, Nat.zero_add, hm, hp m (by omega), ht _ (getD_WB hw (by omega))]
    unfold valOf at *
    rw [lastOf_snoc]
    by_cases hk : p.1 = k
    · subst hk; simp [show p.1 < (settleL S picks o 0 l').length by omega]
    · rw [if_neg hk, ← e]; simp [List.getElem?_set_ne hk]
def fills (i : Nat) : List Int := (List.range i).map fun (j : Nat) => (128 + j : Int)
theorem length_fills (i : Nat) : (fills i).length = i := by simp [fills]
theorem fills_succ (i : Nat) : fills (i + 1) = fills i ++ [(128 + i : Int)] := by simp [fills, List.range_succ]
theorem pickAt_fills {i j : Nat} (h : j < i) : pickAt (fills i) 0 j = 128 := by
  have : (fills i)[j]? = some (128 + (j : Int)) := by simp [fills, h]
  simp only [pickAt, this]; omega
def was16 (S : List Blk) (k : Nat) : List Blk := S.take k ++ List.replicate (16 - k) zblk
theorem was16_len {S : List Blk} (h : 16 ≤ S.length) {k : Nat} (hk : k ≤ 16) : (was16 S k).length = 16 := by simp [was16]; omega
theorem was16_WB {S : List Blk} (h : ∀ b ∈ S, WB b) (k : Nat) : ∀ b ∈ was16 S k, WB b := by
  intro b hb
  simp only [was16, List.mem_append, List.mem_replicate] at hb
  rcases hb with hb | ⟨_, rfl⟩
  · exact h b (List.mem_of_mem_take hb)
  · exact WB_z
theorem was16_set {S : List Blk} (hS : 16 ≤ S.length) (h : ∀ b ∈ S, WB b) {k : Nat} (hk : k < 16) : setL (flat (was16 S k)) (0 + k * 128) (cb (S.getD k [])) = flat (was16 S (k + 1)) := by
  have hg : S.getD k [] = S[k] := by simp [show k < S.length by omega]
  have hb : WB S[k] := h _ (by simp)
  have hl := was16_len hS (k := k) (by omega)
  have := rows_set cb 128 (was16 S k) (fun x hx => (was16_WB h k x hx).len) k (by omega) 0 (cb S[k]) S[k] (by rw [hb.len]; omega) (by
    have : ((cb (was16 S k)[k])).length = 128 := (was16_WB h k _ (by simp)).len
    simp [setL, hb.len, List.drop_of_length_le (show (cb (was16 S k)[k]).length ≤ 128 by omega)])
  rw [Nat.add_zero] at this
  rw [hg, Nat.zero_add, flat, this, flat]
  congr 1
  have h1 : 16 - k = (16 - (k + 1)) + 1 := by omega
  have h2 : (S.take k).length = k := by simp; omega
  unfold was16
  rw [h1, List.replicate_succ, List.set_append_right _ _ (by omega), h2, Nat.sub_self, List.set_cons_zero, List.take_succ_eq_append_getElem (show k < S.length by omega), List.append_assoc]
  rfl
theorem was16_get {S : List Blk} (hS : 16 ≤ S.length) (h : ∀ b ∈ S, WB b) {k : Nat} (hk : k < 16) : ((flat (was16 S 16)).drop (0 + k * 128)).take (cb (S.getD k [])).length = cb (S.getD k []) := by
  have hl := was16_len hS (k := 16) (by omega)
  have hg : S.getD k [] = (was16 S 16)[k]'(by omega) := by
    simp [was16, show k < S.length by omega]
  have hb : WB ((was16 S 16)[k]'(by omega)) := was16_WB h 16 _ (by simp)
  have := rows_get cb 128 (was16 S 16) (fun x hx => (was16_WB h 16 x hx).len) k (by omega) 0 128 (by omega)
  rw [hg, hb.len, Nat.zero_add]
  rw [Nat.add_zero, List.drop_zero] at this
  rw [flat, this, List.take_of_length_le (by rw [hb.len]; omega)]
theorem Lv.readG {i : Nat} {D : DS} (h : Lv i D) (k : Nat) (hk : k < 64) : D.read k = (valOf D.sure D.loose k, 0) ∧ WB (valOf D.sure D.loose k) := by
  constructor
  · simp [DS.read, h.lit k hk, DS.get, valOf, lastOf]; rfl
  · unfold valOf
    split
    · rename_i p hp
      have := List.mem_of_find?_eq_some hp
      exact (h.wf.lb p (by simpa using this)).2
    · exact getD_WB h.wf.wb (by rw [h.len]; exact hk)
theorem fill_int {cells : List Value} (hc : cells.length = 1) (k : IntKind) (z : Int) : fillL (fun i => some (i * 1, 1)) cells [(0, .int k z)] = some [.int k z] := by
  simp [fillL, Value.cells, setL, hc, List.drop_of_length_le]
theorem all4_c (l more : List (Nat × Blk)) (hl : ∀ p ∈ l, p.1 < 256 ∧ WB p.2) (hm : ∀ p ∈ more, p.1 < 256 ∧ WB p.2) (a : Option Addr) (c : Nat) (a' : Option Addr) (c' : Nat) :
    Ctr Try.prog 9 [.slice a l.length c, .slice a' more.length c'] []
      (fun x => rdx a (l.length * 129) (rows pu l) x ∧ rdx a' (more.length * 129) (rows pu more) x) (fun v M => v = .bool true ∧ M = []) := by
  refine Ctr.intro Try.func9 rfl Try.ntmps9 rfl fun x w hp => ?_
  obtain ⟨hp1, hp2⟩ := hp
  repeat (first | refine CX.psA ?_ | refine CX.nil ?_ | refine CQ.thenN ?_ | refine CQ.thenR ?_ | refine CQ.thenX ?_ | refine CQ.blockN ?_ | refine CQ.blockR ?_ | refine CQ.blockX ?_ | refine CQ.blockYA ?_ | refine CC.seq ?_ | refine CC.block ?_ | refine CC.region ?_ | refine CC.skip ?_ | refine CC.ret ?_ | refine CC.exit ?_ | refine CC.condTA ?_ | refine CC.condFA ?_ | refine CC.condDTA ?_ | refine CC.condDFA ?_ | refine CX.storeA ?_ | refine CX.skipA ?_)
  refine CX.callA (written4_c l hl a c) ?_ (hpre := by exact fun y hy => rdx_mono hp1 (Pick.ok (show Pick (exact x) _ _ from by repeat (first | exact .head _ | apply Pick.tail | apply Upd.tail)) hy))
  rintro _ _ ⟨d, D, rfl, rfl, hL⟩
  obtain ⟨D1, hf, hL1, hl1⟩ := hL.flush
  repeat (first | refine CX.psA ?_ | refine CX.nil ?_ | refine CQ.thenN ?_ | refine CQ.thenR ?_ | refine CQ.thenX ?_ | refine CQ.blockN ?_ | refine CQ.blockR ?_ | refine CQ.blockX ?_ | refine CQ.blockYA ?_ | refine CC.seq ?_ | refine CC.block ?_ | refine CC.region ?_ | refine CC.skip ?_ | refine CC.ret ?_ | refine CC.exit ?_ | refine CC.condTA ?_ | refine CC.condFA ?_ | refine CC.condDTA ?_ | refine CC.condDFA ?_ | refine CX.storeA ?_ | refine CX.skipA ?_)
  (have cc := flush_c d D hL.wf (by omega); simp only [hf] at cc; refine CX.callA cc ?_; clear cc; rintro _ _ ⟨rfl, rfl⟩)
  repeat (first | refine CX.psA ?_ | refine CX.nil ?_ | refine CQ.thenN ?_ | refine CQ.thenR ?_ | refine CQ.thenX ?_ | refine CQ.blockN ?_ | refine CQ.blockR ?_ | refine CQ.blockX ?_ | refine CQ.blockYA ?_ | refine CC.seq ?_ | refine CC.block ?_ | refine CC.region ?_ | refine CC.skip ?_ | refine CC.ret ?_ | refine CC.exit ?_ | refine CC.condTA ?_ | refine CC.condFA ?_ | refine CC.condDTA ?_ | refine CC.condDFA ?_ | refine CX.storeA ?_ | refine CX.skipA ?_)
  (refine CX.allocZ (flat (was16 D1.sure 0)) ?_ (hv := by simp only [was16, List.take_zero, List.nil_append, Nat.sub_zero, flat_zs]; rfl); intro r)
  repeat (first | refine CX.psA ?_ | refine CX.nil ?_ | refine CQ.thenN ?_ | refine CQ.thenR ?_ | refine CQ.thenX ?_ | refine CQ.blockN ?_ | refine CQ.blockR ?_ | refine CQ.blockX ?_ | refine CQ.blockYA ?_ | refine CC.seq ?_ | refine CC.block ?_ | refine CC.region ?_ | refine CC.skip ?_ | refine CC.ret ?_ | refine CC.exit ?_ | refine CC.condTA ?_ | refine CC.condFA ?_ | refine CC.condDTA ?_ | refine CC.condDFA ?_ | refine CX.storeA ?_ | refine CX.skipA ?_)
  have hS1 : 16 ≤ D1.sure.length := by rw [hL1.len]; omega
  refine CC.loop (X := Nat) (fun k => [(5, .pointer (some ⟨d, 0, none⟩)), (7, .pointer (some ⟨r, 0, none⟩)), (8, .int .i64 (k : Int)), (1, .slice a' more.length c')])
    (fun k => [bk r 63 (flat (was16 D1.sure k)), disk d D1, exact x]) (fun k => k ≤ 16) (fun k => 16 - k) 0 (Nat.zero_le _) ⟨rfl, rfl, rfl, rfl, trivial⟩ (by repeat (first | exact Sel.nil _ | (apply Sel.cons; (· repeat (first | exact .head _ | apply Pick.tail | apply Upd.tail))))) ?_
  intro k hk
  by_cases hlt : k < 16
  · obtain ⟨hr, -, hwb⟩ := hL1.read k (by omega) hl1
    repeat (first | refine CX.psA ?_ | refine CX.nil ?_ | refine CQ.thenN ?_ | refine CQ.thenR ?_ | refine CQ.thenX ?_ | refine CQ.blockN ?_ | refine CQ.blockR ?_ | refine CQ.blockX ?_ | refine CQ.blockYA ?_ | refine CC.seq ?_ | refine CC.block ?_ | refine CC.region ?_ | refine CC.skip ?_ | refine CC.ret ?_ | refine CC.exit ?_ | refine CC.condTA ?_ | refine CC.condFA ?_ | refine CC.condDTA ?_ | refine CC.condDFA ?_ | refine CX.storeA ?_ | refine CX.skipA ?_)
    (have cc := read_c d D1 (k : Int) hL1.wf (by omega); simp only [hr] at cc; refine CX.callA cc ?_; clear cc; rintro _ _ ⟨rfl, rfl⟩)
    repeat (first | refine CX.psA ?_ | refine CX.nil ?_ | refine CQ.thenN ?_ | refine CQ.thenR ?_ | refine CQ.thenX ?_ | refine CQ.blockN ?_ | refine CQ.blockR ?_ | refine CQ.blockX ?_ | refine CQ.blockYA ?_ | refine CC.seq ?_ | refine CC.block ?_ | refine CC.region ?_ | refine CC.skip ?_ | refine CC.ret ?_ | refine CC.exit ?_ | refine CC.condTA ?_ | refine CC.condFA ?_ | refine CC.condDTA ?_ | refine CC.condDFA ?_ | refine CX.storeA ?_ | refine CX.skipA ?_)
    (apply CX.ps; (· apply PS.indexArr (j := k); (· rfl); (· rfl); (· rfl); (· rfl); (· exact hlt)))
    have hset := was16_set hS1 hL1.wf.wb hlt
    (apply CX.storeC (v := .agg (cb (D1.sure.getD k [])).toArray); (· rfl); (· rfl); (· rfl); (· show (cb _).toArray.size = 128; rw [List.size_toArray]; exact hwb.len); (· simpa [Value.cells] using one_cb _))
    · repeat (first | exact .head _ | apply Pick.tail | apply Upd.tail)
    · rw [length_flat (was16_WB hL1.wf.wb k), was16_len hS1 hk]; omega
    have e1 : (Value.agg (cb (D1.sure.getD k [])).toArray).cells.toList = cb (D1.sure.getD k []) := rfl
    rw [e1, hset]
    repeat (first | refine CX.psA ?_ | refine CX.nil ?_ | refine CQ.thenN ?_ | refine CQ.thenR ?_ | refine CQ.thenX ?_ | refine CQ.blockN ?_ | refine CQ.blockR ?_ | refine CQ.blockX ?_ | refine CQ.blockYA ?_ | refine CC.seq ?_ | refine CC.block ?_ | refine CC.region ?_ | refine CC.skip ?_ | refine CC.ret ?_ | refine CC.exit ?_ | refine CC.condTA ?_ | refine CC.condFA ?_ | refine CC.condDTA ?_ | refine CC.condDFA ?_ | refine CX.storeA ?_ | refine CX.skipA ?_)
    exact CQ.round (k + 1) hlt (by omega) ⟨rfl, rfl, eqI (by omega), rfl, trivial⟩ (by repeat (first | exact Sel.nil _ | (apply Sel.cons; (· repeat (first | exact .head _ | apply Pick.tail | apply Upd.tail)))))
  · obtain rfl : k = 16 := by omega
    repeat (first | refine CX.psA ?_ | refine CX.nil ?_ | refine CQ.thenN ?_ | refine CQ.thenR ?_ | refine CQ.thenX ?_ | refine CQ.blockN ?_ | refine CQ.blockR ?_ | refine CQ.blockX ?_ | refine CQ.blockYA ?_ | refine CC.seq ?_ | refine CC.block ?_ | refine CC.region ?_ | refine CC.skip ?_ | refine CC.ret ?_ | refine CC.exit ?_ | refine CC.condTA ?_ | refine CC.condFA ?_ | refine CC.condDTA ?_ | refine CC.condDFA ?_ | refine CX.storeA ?_ | refine CX.skipA ?_)
    refine CC.ownNil 3 1 ?_
    refine CC.loop (X := Nat × DS × Option Addr × Nat) (fun s => [(5, .pointer (some ⟨d, 0, none⟩)), (7, .pointer (some ⟨r, 0, none⟩)), (9, .slice s.2.2.1 (fills s.1).length s.2.2.2), (10, .int .i64 (s.1 : Int)), (1, .slice a' more.length c')])
      (fun s => [own 3 1 s.2.2.1 (fills s.1).length s.2.2.2 ((fills s.1).map (Value.int .i64)), bk r 63 (flat (was16 D1.sure 16)), disk d s.2.1, exact x]) (fun s => s.1 ≤ 40 ∧ Lv (41 + s.1) s.2.1 ∧ s.2.1.sure = D1.sure ∧ s.2.1.loose.length = s.1) (fun s => 40 - s.1)
      (0, D1, none, 0) ⟨by simp, hL1, rfl, by simp [hl1]⟩ ⟨rfl, rfl, rfl, rfl, rfl, trivial⟩ (by repeat (first | exact Sel.nil _ | (apply Sel.cons; (· repeat (first | exact .head _ | apply Pick.tail | apply Upd.tail))))) ?_
    rintro ⟨i, D, pa, pc⟩ ⟨hi, hJ, hss, hll⟩
    dsimp only at hi hJ hss hll ⊢
    by_cases hlt : i < more.length ∧ i < 40
    · obtain ⟨h1, h2⟩ := hlt
      obtain ⟨g, off, cs, t, fr, rfl, hx, hN, hB⟩ := puts_at hm hp2 i h1
      have hb := (hm more[i] (by simp)).2
      obtain ⟨hf, hL'⟩ := hJ.write (more[i].1 % 16) (by omega) hb
      obtain ⟨D', hD'⟩ : ∃ D', D' = ({ D with steps := D.steps + 1, loose := D.loose ++ [(more[i].1 % 16, more[i].2)] } : DS) := ⟨_, rfl⟩
      rw [← hD'] at hf hL'
      repeat (first | refine CX.psA ?_ | refine CX.nil ?_ | refine CQ.thenN ?_ | refine CQ.thenR ?_ | refine CQ.thenX ?_ | refine CQ.blockN ?_ | refine CQ.blockR ?_ | refine CQ.blockX ?_ | refine CQ.blockYA ?_ | refine CC.seq ?_ | refine CC.block ?_ | refine CC.region ?_ | refine CC.skip ?_ | refine CC.ret ?_ | refine CC.exit ?_ | refine CC.condTA ?_ | refine CC.condFA ?_ | refine CC.condDTA ?_ | refine CC.condDFA ?_ | refine CX.storeA ?_ | refine CX.skipA ?_)
      refine CC.draw [(0, 0), (1, 0), (2, 0), (3, 0), (4, 0), (5, 1), (6, 0), (7, 0), (8, 0), (9, 0), (10, 0), (11, 0), (12, 1), (13, 2), (14, 0)] mixed rfl (by kernel_rfl) (by kernel_rfl) [exact x] ?_
      repeat (first | refine CH.pureA ?_ | refine CH.readA ?_ | refine CH.skA ?_ | refine CH.skCA ?_ | refine CH.nil ?_)
      (apply CH.pure; (· rfl); (· apply PS.indexAddr (j := i); (· rfl); (· rfl); (· rfl); (· rfl); (· exact h1)))
      repeat (first | refine CH.pureA ?_ | refine CH.readA ?_ | refine CH.skA ?_ | refine CH.skCA ?_ | refine CH.nil ?_)
      (apply CH.read; (· rfl); (· apply PS.load (v := .int .u8 (more[i].1 : Int)); (· rfl); (· rfl); (· exact CellAt.exact (by repeat (first | exact .head _ | apply Pick.tail | apply Upd.tail)) ⟨cs, t, fr, hx, hN⟩)); (· repeat (first | exact Sel.nil _ | (apply Sel.cons; (· repeat (first | exact .head _ | apply Pick.tail | apply Upd.tail))))))
      (apply CH.pure; (· rfl); (· apply PS.rem (z := ((more[i].1 % 16 : Nat) : Int)); (· rfl); (· rfl); (· rfl); (· decide); (· exact tmod_nn (by omega))))
      repeat (first | refine CH.pureA ?_ | refine CH.readA ?_ | refine CH.skA ?_ | refine CH.skCA ?_ | refine CH.nil ?_)
      (apply CH.pure; (· rfl); (· apply PS.indexAddr (j := i); (· rfl); (· rfl); (· rfl); (· rfl); (· exact h1)))
      repeat (first | refine CH.pureA ?_ | refine CH.readA ?_ | refine CH.skA ?_ | refine CH.skCA ?_ | refine CH.nil ?_)
      (apply CH.read; (· rfl); (· apply PS.loadG (vs := cb more[i].2); (· rfl); (· rfl); (· exact CellsAt.exact (by repeat (first | exact .head _ | apply Pick.tail | apply Upd.tail)) ⟨cs, t, fr, hx, hB⟩); (· exact hb.len)); (· repeat (first | exact Sel.nil _ | (apply Sel.cons; (· repeat (first | exact .head _ | apply Pick.tail | apply Upd.tail))))))
      refine CH.chain rfl fun K hK => ?_
      (have cc := write_c d D ((more[i].1 % 16 : Nat) : Int) more[i].2 hb hJ.wf (by omega); simp only [hf] at cc; refine CX.callA cc ?_; clear cc; rintro _ _ ⟨rfl, rfl⟩)
      (refine CX.nil ?_; refine CQ.thenK ?_; apply hK; (· repeat (first | exact Sel.nil _ | (apply Sel.cons; (· repeat (first | exact .head _ | apply Pick.tail | apply Upd.tail))))); clear hK K)
      repeat (first | refine CH.pureA ?_ | refine CH.readA ?_ | refine CH.skA ?_ | refine CH.skCA ?_ | refine CH.nil ?_)
      repeat (first | refine CX.psA ?_ | refine CX.nil ?_ | refine CQ.thenN ?_ | refine CQ.thenR ?_ | refine CQ.thenX ?_ | refine CQ.blockN ?_ | refine CQ.blockR ?_ | refine CQ.blockX ?_ | refine CQ.blockYA ?_ | refine CC.seq ?_ | refine CC.block ?_ | refine CC.region ?_ | refine CC.skip ?_ | refine CC.ret ?_ | refine CC.exit ?_ | refine CC.condTA ?_ | refine CC.condFA ?_ | refine CC.condDTA ?_ | refine CC.condDFA ?_ | refine CX.storeA ?_ | refine CX.skipA ?_)
      apply CX.buildSl (vs := [(0, .int .i64 (128 + (i : Int)))]) (out := [.int .i64 (128 + (i : Int))])
      · rfl
      · rfl
      · decide
      · exact fill_int (by simp) _ _
      intro bq
      apply CX.append (m := 1) (news := [.int .i64 (128 + (i : Int))])
      · rfl
      · rfl
      · rfl
      · repeat (first | exact .head _ | apply Pick.tail | apply Upd.tail)
      · exact RdS.pick (t := 3) (cs := [.int .i64 (128 + (i : Int))]) (by repeat (first | exact .head _ | apply Pick.tail | apply Upd.tail)) rfl (by simp [Value.oneCell']) rfl
      · rw [length_fills]; omega
      · intro hh; cases hh
      intro pa' pc'
      have e5 : (fills i).length + 1 = (fills (i + 1)).length := by simp [length_fills]
      have e6 : (fills i).map (Value.int .i64) ++ [.int .i64 (128 + (i : Int))] = (fills (i + 1)).map (Value.int .i64) := by simp [fills_succ]
      rw [e5, e6]
      repeat (first | refine CX.psA ?_ | refine CX.nil ?_ | refine CQ.thenN ?_ | refine CQ.thenR ?_ | refine CQ.thenX ?_ | refine CQ.blockN ?_ | refine CQ.blockR ?_ | refine CQ.blockX ?_ | refine CQ.blockYA ?_ | refine CC.seq ?_ | refine CC.block ?_ | refine CC.region ?_ | refine CC.skip ?_ | refine CC.ret ?_ | refine CC.exit ?_ | refine CC.condTA ?_ | refine CC.condFA ?_ | refine CC.condDTA ?_ | refine CC.condDFA ?_ | refine CX.storeA ?_ | refine CX.skipA ?_)
      exact CQ.round (x := (i, D, pa, pc)) (i + 1, D', pa', pc') ⟨by dsimp only; omega, by rw [show 41 + (i + 1) = 41 + i + 1 by omega]; exact hL', by rw [hD']; exact hss, by rw [hD']; simp [hll]⟩ (by dsimp only; omega) ⟨rfl, rfl, rfl, eqI (by dsimp only; omega), rfl, trivial⟩ (by repeat (first | exact Sel.nil _ | (apply Sel.cons; (· repeat (first | exact .head _ | apply Pick.tail | apply Upd.tail)))))
    · obtain ⟨hc1, hc2⟩ := hJ.crash (fills i)
      obtain ⟨hc3, hc4⟩ := hJ.crash []
      have hfl := length_fills i
      have hks : ∀ k, (D.crash (fills i)).sure.getD k [] = valOf D.sure D.loose k := fun k => settle_full (fills i) 0 D.sure hJ.wf.wb k i D.loose hll hJ.wf.lb fun j hj => pickAt_fills hj
      have hls : (D.crash []).sure = D1.sure := by rw [← hss]; exact settle_none D.loose D.sure 0
      generalize hkc : D.crash (fills i) = Dk at hc1 hc2 hks
      generalize hlc : D.crash [] = Dl at hc3 hc4 hls
      by_cases h1 : i < more.length
      · have h2 : i = 40 := by omega
        repeat (first | refine CX.psA ?_ | refine CX.nil ?_ | refine CQ.thenN ?_ | refine CQ.thenR ?_ | refine CQ.thenX ?_ | refine CQ.blockN ?_ | refine CQ.blockR ?_ | refine CQ.blockX ?_ | refine CQ.blockYA ?_ | refine CC.seq ?_ | refine CC.block ?_ | refine CC.region ?_ | refine CC.skip ?_ | refine CC.ret ?_ | refine CC.exit ?_ | refine CC.condTA ?_ | refine CC.condFA ?_ | refine CC.condDTA ?_ | refine CC.condDFA ?_ | refine CX.storeA ?_ | refine CX.skipA ?_)
        refine CX.callA (copy_c d D hJ.wf (by omega)) ?_
        rintro _ _ ⟨kd, rfl, rfl⟩
        repeat (first | refine CX.psA ?_ | refine CX.nil ?_ | refine CQ.thenN ?_ | refine CQ.thenR ?_ | refine CQ.thenX ?_ | refine CQ.blockN ?_ | refine CQ.blockR ?_ | refine CQ.blockX ?_ | refine CQ.blockYA ?_ | refine CC.seq ?_ | refine CC.block ?_ | refine CC.region ?_ | refine CC.skip ?_ | refine CC.ret ?_ | refine CC.exit ?_ | refine CC.condTA ?_ | refine CC.condFA ?_ | refine CC.condDTA ?_ | refine CC.condDFA ?_ | refine CX.storeA ?_ | refine CX.skipA ?_)
        refine CX.callA (copy_c d D hJ.wf (by omega)) ?_
        rintro _ _ ⟨ld, rfl, rfl⟩
        repeat (first | refine CX.psA ?_ | refine CX.nil ?_ | refine CQ.thenN ?_ | refine CQ.thenR ?_ | refine CQ.thenX ?_ | refine CQ.blockN ?_ | refine CQ.blockR ?_ | refine CQ.blockX ?_ | refine CQ.blockYA ?_ | refine CC.seq ?_ | refine CC.block ?_ | refine CC.region ?_ | refine CC.skip ?_ | refine CC.ret ?_ | refine CC.exit ?_ | refine CC.condTA ?_ | refine CC.condFA ?_ | refine CC.condDTA ?_ | refine CC.condDFA ?_ | refine CX.storeA ?_ | refine CX.skipA ?_)
        (have cc := crash_c kd D (fills i) pa pc hJ.wf (by omega); simp only [hkc] at cc; refine CX.callA cc ?_ (hpre := by exact rdx_RdS (RdS.own (by repeat (first | exact .head _ | apply Pick.tail | apply Upd.tail)) (by intro u hu; simp at hu; obtain ⟨_, _, rfl⟩ := hu; rfl) (Nat.mul_one _))); clear cc; rintro _ _ ⟨rfl, rfl⟩)
        repeat (first | refine CX.psA ?_ | refine CX.nil ?_ | refine CQ.thenN ?_ | refine CQ.thenR ?_ | refine CQ.thenX ?_ | refine CQ.blockN ?_ | refine CQ.blockR ?_ | refine CQ.blockX ?_ | refine CQ.blockYA ?_ | refine CC.seq ?_ | refine CC.block ?_ | refine CC.region ?_ | refine CC.skip ?_ | refine CC.ret ?_ | refine CC.exit ?_ | refine CC.condTA ?_ | refine CC.condFA ?_ | refine CC.condDTA ?_ | refine CC.condDFA ?_ | refine CX.storeA ?_ | refine CX.skipA ?_)
        (have cc := crash_c ld D [] none 0 hJ.wf (by omega); simp only [hlc] at cc; refine CX.callA cc ?_ (hpre := by exact fun _ _ => .inl rfl); clear cc; rintro _ _ ⟨rfl, rfl⟩)
        repeat (first | refine CX.psA ?_ | refine CX.nil ?_ | refine CQ.thenN ?_ | refine CQ.thenR ?_ | refine CQ.thenX ?_ | refine CQ.blockN ?_ | refine CQ.blockR ?_ | refine CQ.blockX ?_ | refine CQ.blockYA ?_ | refine CC.seq ?_ | refine CC.block ?_ | refine CC.region ?_ | refine CC.skip ?_ | refine CC.ret ?_ | refine CC.exit ?_ | refine CC.condTA ?_ | refine CC.condFA ?_ | refine CC.condDTA ?_ | refine CC.condDFA ?_ | refine CX.storeA ?_ | refine CX.skipA ?_)
        (have cc := loose_c d D; simp only [hll] at cc; refine CX.callA cc ?_; clear cc; rintro _ _ ⟨rfl, rfl⟩)
        repeat (first | refine CX.psA ?_ | refine CX.nil ?_ | refine CQ.thenN ?_ | refine CQ.thenR ?_ | refine CQ.thenX ?_ | refine CQ.blockN ?_ | refine CQ.blockR ?_ | refine CQ.blockX ?_ | refine CQ.blockYA ?_ | refine CC.seq ?_ | refine CC.block ?_ | refine CC.region ?_ | refine CC.skip ?_ | refine CC.ret ?_ | refine CC.exit ?_ | refine CC.condTA ?_ | refine CC.condFA ?_ | refine CC.condDTA ?_ | refine CC.condDFA ?_ | refine CX.storeA ?_ | refine CX.skipA ?_)
        refine CC.loop (X := Nat) (fun k => [(5, .pointer (some ⟨d, 0, none⟩)), (11, .pointer (some ⟨kd, 0, none⟩)), (12, .pointer (some ⟨ld, 0, none⟩)), (7, .pointer (some ⟨r, 0, none⟩)), (13, .int .i64 (k : Int))])
          (fun k => [bk r 63 (flat (was16 D1.sure 16)), disk d D, disk kd Dk, disk ld Dl, exact x]) (fun k => k ≤ 16) (fun k => 16 - k) 0 (Nat.zero_le _) ⟨rfl, rfl, rfl, rfl, rfl, trivial⟩ (by repeat (first | exact Sel.nil _ | (apply Sel.cons; (· repeat (first | exact .head _ | apply Pick.tail | apply Upd.tail))))) ?_
        intro k hk
        by_cases hlt : k < 16
        · obtain ⟨hr, hwb⟩ := hJ.readG k (by omega)
          have hr2 : Dk.sureAt k = (valOf D.sure D.loose k, 0) := by simp only [DS.sureAt, hc1.there k (by omega), ne_eq, not_true, if_false, Int.toNat_natCast, hks]
          have hr3 : Dl.sureAt k = (D1.sure.getD k [], 0) := by simp only [DS.sureAt, hc3.there k (by omega), ne_eq, not_true, if_false, Int.toNat_natCast, hls]
          have hwb2 : WB (D1.sure.getD k []) := getD_WB hL1.wf.wb (by omega)
          have hget := was16_get hS1 hL1.wf.wb hlt
          generalize valOf D.sure D.loose k = X at hr hr2 hwb
          generalize D1.sure.getD k [] = Y at hr3 hwb2 hget
          repeat (first | refine CX.psA ?_ | refine CX.nil ?_ | refine CQ.thenN ?_ | refine CQ.thenR ?_ | refine CQ.thenX ?_ | refine CQ.blockN ?_ | refine CQ.blockR ?_ | refine CQ.blockX ?_ | refine CQ.blockYA ?_ | refine CC.seq ?_ | refine CC.block ?_ | refine CC.region ?_ | refine CC.skip ?_ | refine CC.ret ?_ | refine CC.exit ?_ | refine CC.condTA ?_ | refine CC.condFA ?_ | refine CC.condDTA ?_ | refine CC.condDFA ?_ | refine CX.storeA ?_ | refine CX.skipA ?_)
          (have cc := read_c d D (k : Int) hJ.wf (by omega); simp only [hr] at cc; refine CX.callA cc ?_; clear cc; rintro _ _ ⟨rfl, rfl⟩)
          repeat (first | refine CX.psA ?_ | refine CX.nil ?_ | refine CQ.thenN ?_ | refine CQ.thenR ?_ | refine CQ.thenX ?_ | refine CQ.blockN ?_ | refine CQ.blockR ?_ | refine CQ.blockX ?_ | refine CQ.blockYA ?_ | refine CC.seq ?_ | refine CC.block ?_ | refine CC.region ?_ | refine CC.skip ?_ | refine CC.ret ?_ | refine CC.exit ?_ | refine CC.condTA ?_ | refine CC.condFA ?_ | refine CC.condDTA ?_ | refine CC.condDFA ?_ | refine CX.storeA ?_ | refine CX.skipA ?_)
          (refine CX.allocZ (cb zblk) ?_; intro r1)
          repeat (first | refine CX.psA ?_ | refine CX.nil ?_ | refine CQ.thenN ?_ | refine CQ.thenR ?_ | refine CQ.thenX ?_ | refine CQ.blockN ?_ | refine CQ.blockR ?_ | refine CQ.blockX ?_ | refine CQ.blockYA ?_ | refine CC.seq ?_ | refine CC.block ?_ | refine CC.region ?_ | refine CC.skip ?_ | refine CC.ret ?_ | refine CC.exit ?_ | refine CC.condTA ?_ | refine CC.condFA ?_ | refine CC.condDTA ?_ | refine CC.condDFA ?_ | refine CX.storeA ?_ | refine CX.skipA ?_)
          (apply CX.storeAll; (· rfl); (· rfl); (· rfl); (· repeat (first | exact .head _ | apply Pick.tail | apply Upd.tail)); (· exact hwb.len); (· exact WB_z.len); (· exact one_cb _))
          repeat (first | refine CX.psA ?_ | refine CX.nil ?_ | refine CQ.thenN ?_ | refine CQ.thenR ?_ | refine CQ.thenX ?_ | refine CQ.blockN ?_ | refine CQ.blockR ?_ | refine CQ.blockX ?_ | refine CQ.blockYA ?_ | refine CC.seq ?_ | refine CC.block ?_ | refine CC.region ?_ | refine CC.skip ?_ | refine CC.ret ?_ | refine CC.exit ?_ | refine CC.condTA ?_ | refine CC.condFA ?_ | refine CC.condDTA ?_ | refine CC.condDFA ?_ | refine CX.storeA ?_ | refine CX.skipA ?_)
          (have cc := sure_c kd Dk (k : Int) hc1.wf; simp only [hr2] at cc; refine CX.callA cc ?_; clear cc; rintro _ _ ⟨rfl, rfl⟩)
          repeat (first | refine CX.psA ?_ | refine CX.nil ?_ | refine CQ.thenN ?_ | refine CQ.thenR ?_ | refine CQ.thenX ?_ | refine CQ.blockN ?_ | refine CQ.blockR ?_ | refine CQ.blockX ?_ | refine CQ.blockYA ?_ | refine CC.seq ?_ | refine CC.block ?_ | refine CC.region ?_ | refine CC.skip ?_ | refine CC.ret ?_ | refine CC.exit ?_ | refine CC.condTA ?_ | refine CC.condFA ?_ | refine CC.condDTA ?_ | refine CC.condDFA ?_ | refine CX.storeA ?_ | refine CX.skipA ?_)
          (refine CX.allocZ (cb zblk) ?_; intro r2)
          repeat (first | refine CX.psA ?_ | refine CX.nil ?_ | refine CQ.thenN ?_ | refine CQ.thenR ?_ | refine CQ.thenX ?_ | refine CQ.blockN ?_ | refine CQ.blockR ?_ | refine CQ.blockX ?_ | refine CQ.blockYA ?_ | refine CC.seq ?_ | refine CC.block ?_ | refine CC.region ?_ | refine CC.skip ?_ | refine CC.ret ?_ | refine CC.exit ?_ | refine CC.condTA ?_ | refine CC.condFA ?_ | refine CC.condDTA ?_ | refine CC.condDFA ?_ | refine CX.storeA ?_ | refine CX.skipA ?_)
          (apply CX.storeAll; (· rfl); (· rfl); (· rfl); (· repeat (first | exact .head _ | apply Pick.tail | apply Upd.tail)); (· exact hwb.len); (· exact WB_z.len); (· exact one_cb _))
          repeat (first | refine CX.psA ?_ | refine CX.nil ?_ | refine CQ.thenN ?_ | refine CQ.thenR ?_ | refine CQ.thenX ?_ | refine CQ.blockN ?_ | refine CQ.blockR ?_ | refine CQ.blockX ?_ | refine CQ.blockYA ?_ | refine CC.seq ?_ | refine CC.block ?_ | refine CC.region ?_ | refine CC.skip ?_ | refine CC.ret ?_ | refine CC.exit ?_ | refine CC.condTA ?_ | refine CC.condFA ?_ | refine CC.condDTA ?_ | refine CC.condDFA ?_ | refine CX.storeA ?_ | refine CX.skipA ?_)
          (have cc := sure_c ld Dl (k : Int) hc3.wf; simp only [hr3] at cc; refine CX.callA cc ?_; clear cc; rintro _ _ ⟨rfl, rfl⟩)
          repeat (first | refine CX.psA ?_ | refine CX.nil ?_ | refine CQ.thenN ?_ | refine CQ.thenR ?_ | refine CQ.thenX ?_ | refine CQ.blockN ?_ | refine CQ.blockR ?_ | refine CQ.blockX ?_ | refine CQ.blockYA ?_ | refine CC.seq ?_ | refine CC.block ?_ | refine CC.region ?_ | refine CC.skip ?_ | refine CC.ret ?_ | refine CC.exit ?_ | refine CC.condTA ?_ | refine CC.condFA ?_ | refine CC.condDTA ?_ | refine CC.condDFA ?_ | refine CX.storeA ?_ | refine CX.skipA ?_)
          (refine CX.allocZ (cb zblk) ?_; intro r3)
          repeat (first | refine CX.psA ?_ | refine CX.nil ?_ | refine CQ.thenN ?_ | refine CQ.thenR ?_ | refine CQ.thenX ?_ | refine CQ.blockN ?_ | refine CQ.blockR ?_ | refine CQ.blockX ?_ | refine CQ.blockYA ?_ | refine CC.seq ?_ | refine CC.block ?_ | refine CC.region ?_ | refine CC.skip ?_ | refine CC.ret ?_ | refine CC.exit ?_ | refine CC.condTA ?_ | refine CC.condFA ?_ | refine CC.condDTA ?_ | refine CC.condDFA ?_ | refine CX.storeA ?_ | refine CX.skipA ?_)
          (apply CX.storeAll; (· rfl); (· rfl); (· rfl); (· repeat (first | exact .head _ | apply Pick.tail | apply Upd.tail)); (· exact hwb2.len); (· exact WB_z.len); (· exact one_cb _))
          repeat (first | refine CX.psA ?_ | refine CX.nil ?_ | refine CQ.thenN ?_ | refine CQ.thenR ?_ | refine CQ.thenX ?_ | refine CQ.blockN ?_ | refine CQ.blockR ?_ | refine CQ.blockX ?_ | refine CQ.blockYA ?_ | refine CC.seq ?_ | refine CC.block ?_ | refine CC.region ?_ | refine CC.skip ?_ | refine CC.ret ?_ | refine CC.exit ?_ | refine CC.condTA ?_ | refine CC.condFA ?_ | refine CC.condDTA ?_ | refine CC.condDFA ?_ | refine CX.storeA ?_ | refine CX.skipA ?_)
          refine CC.draw [(0, 1), (1, 1), (2, 0), (3, 0), (4, 1), (5, 0), (6, 0), (7, 1), (8, 0), (9, 0), (10, 0), (11, 0), (12, 0), (13, 0), (14, 0), (15, 0), (16, 0), (17, 0), (18, 0), (19, 0), (20, 0), (21, 0)] mixed rfl (by kernel_rfl) (by kernel_rfl) [bk r1 29 (cb X), bk r2 29 (cb X), bk r3 29 (cb Y), bk r 63 (flat (was16 D1.sure 16))] ?_
          (apply CH.read; (· rfl); (· apply PS.loadG (vs := cb X); (· rfl); (· rfl); (· exact CellsAt.all (by repeat (first | exact .head _ | apply Pick.tail | apply Upd.tail))); (· exact hwb.len)); (· repeat (first | exact Sel.nil _ | (apply Sel.cons; (· repeat (first | exact .head _ | apply Pick.tail | apply Upd.tail))))))
          (apply CH.read; (· rfl); (· apply PS.loadG (vs := cb X); (· rfl); (· rfl); (· exact CellsAt.all (by repeat (first | exact .head _ | apply Pick.tail | apply Upd.tail))); (· exact hwb.len)); (· repeat (first | exact Sel.nil _ | (apply Sel.cons; (· repeat (first | exact .head _ | apply Pick.tail | apply Upd.tail))))))
          (apply CH.pure; (· rfl); (· refine PS.toF (PS.neqB (a := X) (b := X) ?_ ?_ ?_ ?_ ?_) ?_; (· rfl); (· rfl); (· rfl); (· exact hwb); (· exact hwb); (· simp)))
          repeat (first | refine CH.pureA ?_ | refine CH.readA ?_ | refine CH.skA ?_ | refine CH.skCA ?_ | refine CH.nil ?_)
          (apply CH.read; (· rfl); (· apply PS.loadG (vs := cb Y); (· rfl); (· rfl); (· exact CellsAt.all (by repeat (first | exact .head _ | apply Pick.tail | apply Upd.tail))); (· exact hwb2.len)); (· repeat (first | exact Sel.nil _ | (apply Sel.cons; (· repeat (first | exact .head _ | apply Pick.tail | apply Upd.tail))))))
          repeat (first | refine CH.pureA ?_ | refine CH.readA ?_ | refine CH.skA ?_ | refine CH.skCA ?_ | refine CH.nil ?_)
          (apply CH.pure; (· rfl); (· apply PS.indexArr (j := k); (· rfl); (· rfl); (· rfl); (· rfl); (· exact hlt)))
          (apply CH.read; (· rfl); (· apply PS.loadG (vs := cb Y); (· rfl); (· rfl); (· exact CellsAt.pick (by repeat (first | exact .head _ | apply Pick.tail | apply Upd.tail)) hget); (· exact hwb2.len)); (· repeat (first | exact Sel.nil _ | (apply Sel.cons; (· repeat (first | exact .head _ | apply Pick.tail | apply Upd.tail))))))
          (apply CH.pure; (· rfl); (· refine PS.toF (PS.neqB (a := Y) (b := Y) ?_ ?_ ?_ ?_ ?_) ?_; (· rfl); (· rfl); (· rfl); (· exact hwb2); (· exact hwb2); (· simp)))
          repeat (first | refine CH.pureA ?_ | refine CH.readA ?_ | refine CH.skA ?_ | refine CH.skCA ?_ | refine CH.nil ?_)
          repeat (first | refine CX.psA ?_ | refine CX.nil ?_ | refine CQ.thenN ?_ | refine CQ.thenR ?_ | refine CQ.thenX ?_ | refine CQ.blockN ?_ | refine CQ.blockR ?_ | refine CQ.blockX ?_ | refine CQ.blockYA ?_ | refine CC.seq ?_ | refine CC.block ?_ | refine CC.region ?_ | refine CC.skip ?_ | refine CC.ret ?_ | refine CC.exit ?_ | refine CC.condTA ?_ | refine CC.condFA ?_ | refine CC.condDTA ?_ | refine CC.condDFA ?_ | refine CX.storeA ?_ | refine CX.skipA ?_)
          exact CQ.round (k + 1) hlt (by omega) ⟨rfl, rfl, rfl, rfl, eqI (by omega), trivial⟩ (by repeat (first | exact Sel.nil _ | (apply Sel.cons; (· repeat (first | exact .head _ | apply Pick.tail | apply Upd.tail)))))
        · obtain rfl : k = 16 := by omega
          repeat (first | refine CX.psA ?_ | refine CX.nil ?_ | refine CQ.thenN ?_ | refine CQ.thenR ?_ | refine CQ.thenX ?_ | refine CQ.blockN ?_ | refine CQ.blockR ?_ | refine CQ.blockX ?_ | refine CQ.blockYA ?_ | refine CC.seq ?_ | refine CC.block ?_ | refine CC.region ?_ | refine CC.skip ?_ | refine CC.ret ?_ | refine CC.exit ?_ | refine CC.condTA ?_ | refine CC.condFA ?_ | refine CC.condDTA ?_ | refine CC.condDFA ?_ | refine CX.storeA ?_ | refine CX.skipA ?_)
          refine CX.callA (lives4_c) ?_
          rintro _ _ ⟨rfl, rfl⟩
          repeat (first | refine CX.psA ?_ | refine CX.nil ?_ | refine CQ.thenN ?_ | refine CQ.thenR ?_ | refine CQ.thenX ?_ | refine CQ.blockN ?_ | refine CQ.blockR ?_ | refine CQ.blockX ?_ | refine CQ.blockYA ?_ | refine CC.seq ?_ | refine CC.block ?_ | refine CC.region ?_ | refine CC.skip ?_ | refine CC.ret ?_ | refine CC.exit ?_ | refine CC.condTA ?_ | refine CC.condFA ?_ | refine CC.condDTA ?_ | refine CC.condDFA ?_ | refine CX.storeA ?_ | refine CX.skipA ?_)
          ((apply CQ.end1; (· rfl); (· exact .tmp rfl)); (· exact ⟨rfl, rfl⟩); (· repeat (first | exact Sel.nil _ | (apply Sel.cons; (· repeat (first | exact .head _ | apply Pick.tail | apply Upd.tail))))))
      · repeat (first | refine CX.psA ?_ | refine CX.nil ?_ | refine CQ.thenN ?_ | refine CQ.thenR ?_ | refine CQ.thenX ?_ | refine CQ.blockN ?_ | refine CQ.blockR ?_ | refine CQ.blockX ?_ | refine CQ.blockYA ?_ | refine CC.seq ?_ | refine CC.block ?_ | refine CC.region ?_ | refine CC.skip ?_ | refine CC.ret ?_ | refine CC.exit ?_ | refine CC.condTA ?_ | refine CC.condFA ?_ | refine CC.condDTA ?_ | refine CC.condDFA ?_ | refine CX.storeA ?_ | refine CX.skipA ?_)
        refine CX.callA (copy_c d D hJ.wf (by omega)) ?_
        rintro _ _ ⟨kd, rfl, rfl⟩
        repeat (first | refine CX.psA ?_ | refine CX.nil ?_ | refine CQ.thenN ?_ | refine CQ.thenR ?_ | refine CQ.thenX ?_ | refine CQ.blockN ?_ | refine CQ.blockR ?_ | refine CQ.blockX ?_ | refine CQ.blockYA ?_ | refine CC.seq ?_ | refine CC.block ?_ | refine CC.region ?_ | refine CC.skip ?_ | refine CC.ret ?_ | refine CC.exit ?_ | refine CC.condTA ?_ | refine CC.condFA ?_ | refine CC.condDTA ?_ | refine CC.condDFA ?_ | refine CX.storeA ?_ | refine CX.skipA ?_)
        refine CX.callA (copy_c d D hJ.wf (by omega)) ?_
        rintro _ _ ⟨ld, rfl, rfl⟩
        repeat (first | refine CX.psA ?_ | refine CX.nil ?_ | refine CQ.thenN ?_ | refine CQ.thenR ?_ | refine CQ.thenX ?_ | refine CQ.blockN ?_ | refine CQ.blockR ?_ | refine CQ.blockX ?_ | refine CQ.blockYA ?_ | refine CC.seq ?_ | refine CC.block ?_ | refine CC.region ?_ | refine CC.skip ?_ | refine CC.ret ?_ | refine CC.exit ?_ | refine CC.condTA ?_ | refine CC.condFA ?_ | refine CC.condDTA ?_ | refine CC.condDFA ?_ | refine CX.storeA ?_ | refine CX.skipA ?_)
        (have cc := crash_c kd D (fills i) pa pc hJ.wf (by omega); simp only [hkc] at cc; refine CX.callA cc ?_ (hpre := by exact rdx_RdS (RdS.own (by repeat (first | exact .head _ | apply Pick.tail | apply Upd.tail)) (by intro u hu; simp at hu; obtain ⟨_, _, rfl⟩ := hu; rfl) (Nat.mul_one _))); clear cc; rintro _ _ ⟨rfl, rfl⟩)
        repeat (first | refine CX.psA ?_ | refine CX.nil ?_ | refine CQ.thenN ?_ | refine CQ.thenR ?_ | refine CQ.thenX ?_ | refine CQ.blockN ?_ | refine CQ.blockR ?_ | refine CQ.blockX ?_ | refine CQ.blockYA ?_ | refine CC.seq ?_ | refine CC.block ?_ | refine CC.region ?_ | refine CC.skip ?_ | refine CC.ret ?_ | refine CC.exit ?_ | refine CC.condTA ?_ | refine CC.condFA ?_ | refine CC.condDTA ?_ | refine CC.condDFA ?_ | refine CX.storeA ?_ | refine CX.skipA ?_)
        (have cc := crash_c ld D [] none 0 hJ.wf (by omega); simp only [hlc] at cc; refine CX.callA cc ?_ (hpre := by exact fun _ _ => .inl rfl); clear cc; rintro _ _ ⟨rfl, rfl⟩)
        repeat (first | refine CX.psA ?_ | refine CX.nil ?_ | refine CQ.thenN ?_ | refine CQ.thenR ?_ | refine CQ.thenX ?_ | refine CQ.blockN ?_ | refine CQ.blockR ?_ | refine CQ.blockX ?_ | refine CQ.blockYA ?_ | refine CC.seq ?_ | refine CC.block ?_ | refine CC.region ?_ | refine CC.skip ?_ | refine CC.ret ?_ | refine CC.exit ?_ | refine CC.condTA ?_ | refine CC.condFA ?_ | refine CC.condDTA ?_ | refine CC.condDFA ?_ | refine CX.storeA ?_ | refine CX.skipA ?_)
        (have cc := loose_c d D; simp only [hll] at cc; refine CX.callA cc ?_; clear cc; rintro _ _ ⟨rfl, rfl⟩)
        repeat (first | refine CX.psA ?_ | refine CX.nil ?_ | refine CQ.thenN ?_ | refine CQ.thenR ?_ | refine CQ.thenX ?_ | refine CQ.blockN ?_ | refine CQ.blockR ?_ | refine CQ.blockX ?_ | refine CQ.blockYA ?_ | refine CC.seq ?_ | refine CC.block ?_ | refine CC.region ?_ | refine CC.skip ?_ | refine CC.ret ?_ | refine CC.exit ?_ | refine CC.condTA ?_ | refine CC.condFA ?_ | refine CC.condDTA ?_ | refine CC.condDFA ?_ | refine CX.storeA ?_ | refine CX.skipA ?_)
        refine CC.loop (X := Nat) (fun k => [(5, .pointer (some ⟨d, 0, none⟩)), (11, .pointer (some ⟨kd, 0, none⟩)), (12, .pointer (some ⟨ld, 0, none⟩)), (7, .pointer (some ⟨r, 0, none⟩)), (13, .int .i64 (k : Int))])
          (fun k => [bk r 63 (flat (was16 D1.sure 16)), disk d D, disk kd Dk, disk ld Dl, exact x]) (fun k => k ≤ 16) (fun k => 16 - k) 0 (Nat.zero_le _) ⟨rfl, rfl, rfl, rfl, rfl, trivial⟩ (by repeat (first | exact Sel.nil _ | (apply Sel.cons; (· repeat (first | exact .head _ | apply Pick.tail | apply Upd.tail))))) ?_
        intro k hk
        by_cases hlt : k < 16
        · obtain ⟨hr, hwb⟩ := hJ.readG k (by omega)
          have hr2 : Dk.sureAt k = (valOf D.sure D.loose k, 0) := by simp only [DS.sureAt, hc1.there k (by omega), ne_eq, not_true, if_false, Int.toNat_natCast, hks]
          have hr3 : Dl.sureAt k = (D1.sure.getD k [], 0) := by simp only [DS.sureAt, hc3.there k (by omega), ne_eq, not_true, if_false, Int.toNat_natCast, hls]
          have hwb2 : WB (D1.sure.getD k []) := getD_WB hL1.wf.wb (by omega)
          have hget := was16_get hS1 hL1.wf.wb hlt
          generalize valOf D.sure D.loose k = X at hr hr2 hwb
          generalize D1.sure.getD k [] = Y at hr3 hwb2 hget
          repeat (first | refine CX.psA ?_ | refine CX.nil ?_ | refine CQ.thenN ?_ | refine CQ.thenR ?_ | refine CQ.thenX ?_ | refine CQ.blockN ?_ | refine CQ.blockR ?_ | refine CQ.blockX ?_ | refine CQ.blockYA ?_ | refine CC.seq ?_ | refine CC.block ?_ | refine CC.region ?_ | refine CC.skip ?_ | refine CC.ret ?_ | refine CC.exit ?_ | refine CC.condTA ?_ | refine CC.condFA ?_ | refine CC.condDTA ?_ | refine CC.condDFA ?_ | refine CX.storeA ?_ | refine CX.skipA ?_)
          (have cc := read_c d D (k : Int) hJ.wf (by omega); simp only [hr] at cc; refine CX.callA cc ?_; clear cc; rintro _ _ ⟨rfl, rfl⟩)
          repeat (first | refine CX.psA ?_ | refine CX.nil ?_ | refine CQ.thenN ?_ | refine CQ.thenR ?_ | refine CQ.thenX ?_ | refine CQ.blockN ?_ | refine CQ.blockR ?_ | refine CQ.blockX ?_ | refine CQ.blockYA ?_ | refine CC.seq ?_ | refine CC.block ?_ | refine CC.region ?_ | refine CC.skip ?_ | refine CC.ret ?_ | refine CC.exit ?_ | refine CC.condTA ?_ | refine CC.condFA ?_ | refine CC.condDTA ?_ | refine CC.condDFA ?_ | refine CX.storeA ?_ | refine CX.skipA ?_)
          (refine CX.allocZ (cb zblk) ?_; intro r1)
          repeat (first | refine CX.psA ?_ | refine CX.nil ?_ | refine CQ.thenN ?_ | refine CQ.thenR ?_ | refine CQ.thenX ?_ | refine CQ.blockN ?_ | refine CQ.blockR ?_ | refine CQ.blockX ?_ | refine CQ.blockYA ?_ | refine CC.seq ?_ | refine CC.block ?_ | refine CC.region ?_ | refine CC.skip ?_ | refine CC.ret ?_ | refine CC.exit ?_ | refine CC.condTA ?_ | refine CC.condFA ?_ | refine CC.condDTA ?_ | refine CC.condDFA ?_ | refine CX.storeA ?_ | refine CX.skipA ?_)
          (apply CX.storeAll; (· rfl); (· rfl); (· rfl); (· repeat (first | exact .head _ | apply Pick.tail | apply Upd.tail)); (· exact hwb.len); (· exact WB_z.len); (· exact one_cb _))
          repeat (first | refine CX.psA ?_ | refine CX.nil ?_ | refine CQ.thenN ?_ | refine CQ.thenR ?_ | refine CQ.thenX ?_ | refine CQ.blockN ?_ | refine CQ.blockR ?_ | refine CQ.blockX ?_ | refine CQ.blockYA ?_ | refine CC.seq ?_ | refine CC.block ?_ | refine CC.region ?_ | refine CC.skip ?_ | refine CC.ret ?_ | refine CC.exit ?_ | refine CC.condTA ?_ | refine CC.condFA ?_ | refine CC.condDTA ?_ | refine CC.condDFA ?_ | refine CX.storeA ?_ | refine CX.skipA ?_)
          (have cc := sure_c kd Dk (k : Int) hc1.wf; simp only [hr2] at cc; refine CX.callA cc ?_; clear cc; rintro _ _ ⟨rfl, rfl⟩)
          repeat (first | refine CX.psA ?_ | refine CX.nil ?_ | refine CQ.thenN ?_ | refine CQ.thenR ?_ | refine CQ.thenX ?_ | refine CQ.blockN ?_ | refine CQ.blockR ?_ | refine CQ.blockX ?_ | refine CQ.blockYA ?_ | refine CC.seq ?_ | refine CC.block ?_ | refine CC.region ?_ | refine CC.skip ?_ | refine CC.ret ?_ | refine CC.exit ?_ | refine CC.condTA ?_ | refine CC.condFA ?_ | refine CC.condDTA ?_ | refine CC.condDFA ?_ | refine CX.storeA ?_ | refine CX.skipA ?_)
          (refine CX.allocZ (cb zblk) ?_; intro r2)
          repeat (first | refine CX.psA ?_ | refine CX.nil ?_ | refine CQ.thenN ?_ | refine CQ.thenR ?_ | refine CQ.thenX ?_ | refine CQ.blockN ?_ | refine CQ.blockR ?_ | refine CQ.blockX ?_ | refine CQ.blockYA ?_ | refine CC.seq ?_ | refine CC.block ?_ | refine CC.region ?_ | refine CC.skip ?_ | refine CC.ret ?_ | refine CC.exit ?_ | refine CC.condTA ?_ | refine CC.condFA ?_ | refine CC.condDTA ?_ | refine CC.condDFA ?_ | refine CX.storeA ?_ | refine CX.skipA ?_)
          (apply CX.storeAll; (· rfl); (· rfl); (· rfl); (· repeat (first | exact .head _ | apply Pick.tail | apply Upd.tail)); (· exact hwb.len); (· exact WB_z.len); (· exact one_cb _))
          repeat (first | refine CX.psA ?_ | refine CX.nil ?_ | refine CQ.thenN ?_ | refine CQ.thenR ?_ | refine CQ.thenX ?_ | refine CQ.blockN ?_ | refine CQ.blockR ?_ | refine CQ.blockX ?_ | refine CQ.blockYA ?_ | refine CC.seq ?_ | refine CC.block ?_ | refine CC.region ?_ | refine CC.skip ?_ | refine CC.ret ?_ | refine CC.exit ?_ | refine CC.condTA ?_ | refine CC.condFA ?_ | refine CC.condDTA ?_ | refine CC.condDFA ?_ | refine CX.storeA ?_ | refine CX.skipA ?_)
          (have cc := sure_c ld Dl (k : Int) hc3.wf; simp only [hr3] at cc; refine CX.callA cc ?_; clear cc; rintro _ _ ⟨rfl, rfl⟩)
          repeat (first | refine CX.psA ?_ | refine CX.nil ?_ | refine CQ.thenN ?_ | refine CQ.thenR ?_ | refine CQ.thenX ?_ | refine CQ.blockN ?_ | refine CQ.blockR ?_ | refine CQ.blockX ?_ | refine CQ.blockYA ?_ | refine CC.seq ?_ | refine CC.block ?_ | refine CC.region ?_ | refine CC.skip ?_ | refine CC.ret ?_ | refine CC.exit ?_ | refine CC.condTA ?_ | refine CC.condFA ?_ | refine CC.condDTA ?_ | refine CC.condDFA ?_ | refine CX.storeA ?_ | refine CX.skipA ?_)
          (refine CX.allocZ (cb zblk) ?_; intro r3)
          repeat (first | refine CX.psA ?_ | refine CX.nil ?_ | refine CQ.thenN ?_ | refine CQ.thenR ?_ | refine CQ.thenX ?_ | refine CQ.blockN ?_ | refine CQ.blockR ?_ | refine CQ.blockX ?_ | refine CQ.blockYA ?_ | refine CC.seq ?_ | refine CC.block ?_ | refine CC.region ?_ | refine CC.skip ?_ | refine CC.ret ?_ | refine CC.exit ?_ | refine CC.condTA ?_ | refine CC.condFA ?_ | refine CC.condDTA ?_ | refine CC.condDFA ?_ | refine CX.storeA ?_ | refine CX.skipA ?_)
          (apply CX.storeAll; (· rfl); (· rfl); (· rfl); (· repeat (first | exact .head _ | apply Pick.tail | apply Upd.tail)); (· exact hwb2.len); (· exact WB_z.len); (· exact one_cb _))
          repeat (first | refine CX.psA ?_ | refine CX.nil ?_ | refine CQ.thenN ?_ | refine CQ.thenR ?_ | refine CQ.thenX ?_ | refine CQ.blockN ?_ | refine CQ.blockR ?_ | refine CQ.blockX ?_ | refine CQ.blockYA ?_ | refine CC.seq ?_ | refine CC.block ?_ | refine CC.region ?_ | refine CC.skip ?_ | refine CC.ret ?_ | refine CC.exit ?_ | refine CC.condTA ?_ | refine CC.condFA ?_ | refine CC.condDTA ?_ | refine CC.condDFA ?_ | refine CX.storeA ?_ | refine CX.skipA ?_)
          refine CC.draw [(0, 1), (1, 1), (2, 0), (3, 0), (4, 1), (5, 0), (6, 0), (7, 1), (8, 0), (9, 0), (10, 0), (11, 0), (12, 0), (13, 0), (14, 0), (15, 0), (16, 0), (17, 0), (18, 0), (19, 0), (20, 0), (21, 0)] mixed rfl (by kernel_rfl) (by kernel_rfl) [bk r1 29 (cb X), bk r2 29 (cb X), bk r3 29 (cb Y), bk r 63 (flat (was16 D1.sure 16))] ?_
          (apply CH.read; (· rfl); (· apply PS.loadG (vs := cb X); (· rfl); (· rfl); (· exact CellsAt.all (by repeat (first | exact .head _ | apply Pick.tail | apply Upd.tail))); (· exact hwb.len)); (· repeat (first | exact Sel.nil _ | (apply Sel.cons; (· repeat (first | exact .head _ | apply Pick.tail | apply Upd.tail))))))
          (apply CH.read; (· rfl); (· apply PS.loadG (vs := cb X); (· rfl); (· rfl); (· exact CellsAt.all (by repeat (first | exact .head _ | apply Pick.tail | apply Upd.tail))); (· exact hwb.len)); (· repeat (first | exact Sel.nil _ | (apply Sel.cons; (· repeat (first | exact .head _ | apply Pick.tail | apply Upd.tail))))))
          (apply CH.pure; (· rfl); (· refine PS.toF (PS.neqB (a := X) (b := X) ?_ ?_ ?_ ?_ ?_) ?_; (· rfl); (· rfl); (· rfl); (· exact hwb); (· exact hwb); (· simp)))
          repeat (first | refine CH.pureA ?_ | refine CH.readA ?_ | refine CH.skA ?_ | refine CH.skCA ?_ | refine CH.nil ?_)
          (apply CH.read; (· rfl); (· apply PS.loadG (vs := cb Y); (· rfl); (· rfl); (· exact CellsAt.all (by repeat (first | exact .head _ | apply Pick.tail | apply Upd.tail))); (· exact hwb2.len)); (· repeat (first | exact Sel.nil _ | (apply Sel.cons; (· repeat (first | exact .head _ | apply Pick.tail | apply Upd.tail))))))
          repeat (first | refine CH.pureA ?_ | refine CH.readA ?_ | refine CH.skA ?_ | refine CH.skCA ?_ | refine CH.nil ?_)
          (apply CH.pure; (· rfl); (· apply PS.indexArr (j := k); (· rfl); (· rfl); (· rfl); (· rfl); (· exact hlt)))
          (apply CH.read; (· rfl); (· apply PS.loadG (vs := cb Y); (· rfl); (· rfl); (· exact CellsAt.pick (by repeat (first | exact .head _ | apply Pick.tail | apply Upd.tail)) hget); (· exact hwb2.len)); (· repeat (first | exact Sel.nil _ | (apply Sel.cons; (· repeat (first | exact .head _ | apply Pick.tail | apply Upd.tail))))))
          (apply CH.pure; (· rfl); (· refine PS.toF (PS.neqB (a := Y) (b := Y) ?_ ?_ ?_ ?_ ?_) ?_; (· rfl); (· rfl); (· rfl); (· exact hwb2); (· exact hwb2); (· simp)))
          repeat (first | refine CH.pureA ?_ | refine CH.readA ?_ | refine CH.skA ?_ | refine CH.skCA ?_ | refine CH.nil ?_)
          repeat (first | refine CX.psA ?_ | refine CX.nil ?_ | refine CQ.thenN ?_ | refine CQ.thenR ?_ | refine CQ.thenX ?_ | refine CQ.blockN ?_ | refine CQ.blockR ?_ | refine CQ.blockX ?_ | refine CQ.blockYA ?_ | refine CC.seq ?_ | refine CC.block ?_ | refine CC.region ?_ | refine CC.skip ?_ | refine CC.ret ?_ | refine CC.exit ?_ | refine CC.condTA ?_ | refine CC.condFA ?_ | refine CC.condDTA ?_ | refine CC.condDFA ?_ | refine CX.storeA ?_ | refine CX.skipA ?_)
          exact CQ.round (k + 1) hlt (by omega) ⟨rfl, rfl, rfl, rfl, eqI (by omega), trivial⟩ (by repeat (first | exact Sel.nil _ | (apply Sel.cons; (· repeat (first | exact .head _ | apply Pick.tail | apply Upd.tail)))))
        · obtain rfl : k = 16 := by omega
          repeat (first | refine CX.psA ?_ | refine CX.nil ?_ | refine CQ.thenN ?_ | refine CQ.thenR ?_ | refine CQ.thenX ?_ | refine CQ.blockN ?_ | refine CQ.blockR ?_ | refine CQ.blockX ?_ | refine CQ.blockYA ?_ | refine CC.seq ?_ | refine CC.block ?_ | refine CC.region ?_ | refine CC.skip ?_ | refine CC.ret ?_ | refine CC.exit ?_ | refine CC.condTA ?_ | refine CC.condFA ?_ | refine CC.condDTA ?_ | refine CC.condDFA ?_ | refine CX.storeA ?_ | refine CX.skipA ?_)
          refine CX.callA (lives4_c) ?_
          rintro _ _ ⟨rfl, rfl⟩
          repeat (first | refine CX.psA ?_ | refine CX.nil ?_ | refine CQ.thenN ?_ | refine CQ.thenR ?_ | refine CQ.thenX ?_ | refine CQ.blockN ?_ | refine CQ.blockR ?_ | refine CQ.blockX ?_ | refine CQ.blockYA ?_ | refine CC.seq ?_ | refine CC.block ?_ | refine CC.region ?_ | refine CC.skip ?_ | refine CC.ret ?_ | refine CC.exit ?_ | refine CC.condTA ?_ | refine CC.condFA ?_ | refine CC.condDTA ?_ | refine CC.condDFA ?_ | refine CX.storeA ?_ | refine CX.skipA ?_)
          ((apply CQ.end1; (· rfl); (· exact .tmp rfl)); (· exact ⟨rfl, rfl⟩); (· repeat (first | exact Sel.nil _ | (apply Sel.cons; (· repeat (first | exact .head _ | apply Pick.tail | apply Upd.tail))))))
end Go.Proofs.Ytlckhaodecdbbaa
