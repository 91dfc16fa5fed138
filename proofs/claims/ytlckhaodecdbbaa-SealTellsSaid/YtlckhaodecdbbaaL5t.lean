/- What the statement SealTells does, step by step. -/
import Derived.Test.YtlckhaodecdbbaaRf
import Derived.Test.YtlckhaodecdbbaaLv5
set_option linter.unusedVariables false
set_option linter.unusedSimpArgs false
namespace Go.Proofs.Ytlckhaodecdbbaa
open Go.Cx
theorem wide_len (B : Blk) : (wideB B).length = B.length + 3 := by simp [wideB]
theorem wide_take (B : Blk) : (wideB B).take B.length = B := by simp [wideB]
/-- The first cells of what can be read. -/
theorem rdx_front {a : Option Addr} {len : Nat} {B : Blk} {y : PH} (h : rdx a len (cb B) y) (hl : len = B.length) (k : Nat) (hk : k ≤ B.length) : rdx a k (cb (B.take k)) y := by
  rcases Nat.eq_zero_or_pos k with rfl | h0
  · exact .inl rfl
  · obtain ⟨g, off, rfl⟩ := rdx_some h (by omega)
    have := rdx_part rfl h hl 0 k (by omega)
    simpa using this
theorem own_max {e sz m cap : Nat} {a : Option Addr} {xs : List Value} {L L' : List Assn} (p : Pick (own e sz a m cap xs) L L') {h : PH} (hs : Sep L h) : cap ≤ 9223372036854775807 := by
  have := (own_ok.1 (p.ok hs)).2.2.1
  simp only [maxLen] at this; omega
theorem rdx_pre2 {g off len : Nat} {B : Blk} {y : PH} (h : rdx (some ⟨g, off, none⟩) len (cb B) y) (hl : len = B.length) (k : Nat) (hk : k ≤ B.length) : rdx (some ⟨g, off, none⟩) k (cb (B.take k)) y := by
  have := rdx_part rfl h hl 0 k (by omega)
  simpa using this
theorem two_set0 {X Y Z : Blk} (w : WB X) (z : WB Z) : setL (cb X ++ cb Y) (0 + 0 * 128) (cb Z) = cb Z ++ cb Y := by
  have h1 : (cb X).length = 128 := w.len
  have h2 : (cb Z).length = 128 := z.len
  simp only [setL, Nat.zero_mul, Nat.zero_add, List.take_zero, List.nil_append, h2]
  rw [List.drop_append, List.drop_of_length_le (by omega), h1]; simp
theorem two_set1 {X Y Z : Blk} (w : WB X) (y : WB Y) (z : WB Z) : setL (cb X ++ cb Y) (0 + 1 * 128) (cb Z) = cb X ++ cb Z := by
  have h1 : (cb X).length = 128 := w.len
  have h2 : (cb Z).length = 128 := z.len
  have h3 : (cb Y).length = 128 := y.len
  simp only [setL, Nat.one_mul, Nat.zero_add, h2]
  rw [List.drop_of_length_le (by rw [List.length_append]; omega), List.append_nil, List.take_append_of_le_length (by omega), List.take_of_length_le (by omega)]
theorem two_z : (List.replicate 256 (Value.int .u8 0)) = cb zblk ++ cb zblk := by rw [cb_z, List.replicate_append_replicate]
theorem fillL_cons {place : Nat → Option (Nat × Nat)} {i off size : Nat} {v : Value} {rest : List (Nat × Value)} {cells out : List Value} (hp : place i = some (off, size)) (hs : v.cells.size = size) (hl : off + size ≤ cells.length)
    (h : fillL place (setL cells off v.cells.toList) rest = some out) : fillL place cells ((i, v) :: rest) = some out := by
  unfold fillL
  rw [hp]
  dsimp only
  rw [if_pos ⟨hs, by omega⟩]; exact h
theorem fill_two {A B : Blk} (hA : WB A) (hB : WB B) : fillL (fun i => some (i * 128, 128)) (List.replicate 256 (Value.int .u8 0)) [(0, .agg (cb A).toArray), (1, .agg (cb B).toArray)] = some (cb A ++ cb B) := by
  have s0 : (Value.agg (cb A).toArray).cells.size = 128 := by show (cb A).toArray.size = 128; rw [List.size_toArray]; exact hA.len
  have s1 : (Value.agg (cb B).toArray).cells.size = 128 := by show (cb B).toArray.size = 128; rw [List.size_toArray]; exact hB.len
  have e0 : setL (cb zblk ++ cb zblk) (0 * 128) (Value.agg (cb A).toArray).cells.toList = cb A ++ cb zblk := by
    have := two_set0 (Y := zblk) WB_z hA
    rw [Nat.zero_add] at this; exact this
  have e1 : setL (cb A ++ cb zblk) (1 * 128) (Value.agg (cb B).toArray).cells.toList = cb A ++ cb B := by
    have := two_set1 hA WB_z hB
    rw [Nat.zero_add] at this; exact this
  have l0 : (cb zblk ++ cb zblk).length = 256 := by rw [← two_z, List.length_replicate]
  have l1 : (cb A ++ cb zblk).length = 256 := by rw [List.length_append, hA.len, WB_z.len]
  rw [two_z]
  refine fillL_cons (off := 0 * 128) (size := 128) rfl s0 (by rw [l0]; omega) ?_
  rw [e0]
  refine fillL_cons (off := 1 * 128) (size := 128) rfl s1 (by rw [l1]; omega) ?_
  rw [e1]
  rfl
theorem two_part {L L' : List Assn} {q t i : Nat} {A B : Blk} (p : Pick (bk q t (cb A ++ cb B)) L L') (hA : WB A) (hi : i < 2) : CellsAt L q (0 + i * 128) (cb (if i = 0 then A else B)) := by
  have h1 : (cb A).length = 128 := hA.len
  rcases (show i = 0 ∨ i = 1 by omega) with rfl | rfl
  · exact CellsAt.pick p (by simp)
  · exact CellsAt.pick p (by
      rw [List.drop_append, List.drop_of_length_le (by omega), h1, Nat.zero_add, Nat.one_mul, Nat.sub_self, List.drop_zero, List.nil_append]
      exact List.take_length)
attribute [local irreducible] Go.Cx.CX Go.Cx.CC Go.Cx.CQ Go.Cx.PS Go.Cx.Ctr Go.Cx.CH
set_option maxRecDepth 10000
theorem left_c (B : Blk) (hB : B.length ≤ 140737488351232) (b : Nat) (a : Option Addr) (cap : Nat) : Ctr Try.prog 36 [.slice (some ⟨b, 0, none⟩) B.length (B.length + 3), .slice a B.length cap] [own 5 1 (some ⟨b, 0, none⟩) (B.length + 3) (B.length + 3) (cb (wideB B))]
    (fun x => rdx a B.length (cb B) x) (fun v M => v = .bool true ∧ M = [own 5 1 (some ⟨b, 0, none⟩) (B.length + 3) (B.length + 3) (cb (wideB B))]) := by
  have lw := wide_len B
  have w1 : ∀ i (h : i < (wideB B).length), B.length ≤ i → (wideB B)[i] = 7 := fun i h h2 => wide_hi h2 h
  have cut0 : cutAt (some ⟨b, 0, none⟩) 0 (B.length + 3) 1 = some ⟨b, 0, none⟩ := by unfold cutAt; rw [if_neg (by omega)]; simp [addr_add]
  refine Ctr.intro Try.func36 rfl Try.ntmps36 rfl fun x w hp => ?_
  repeat (first | refine CX.psA ?_ | refine CX.nil ?_ | refine CQ.thenN ?_ | refine CQ.thenR ?_ | refine CQ.thenX ?_ | refine CQ.blockN ?_ | refine CQ.blockR ?_ | refine CQ.blockX ?_ | refine CQ.blockYA ?_ | refine CC.seq ?_ | refine CC.block ?_ | refine CC.region ?_ | refine CC.skip ?_ | refine CC.ret ?_ | refine CC.exit ?_ | refine CC.condTA ?_ | refine CC.condFA ?_ | refine CC.condDTA ?_ | refine CC.condDFA ?_ | refine CX.storeA ?_ | refine CX.skipA ?_)
  have cs := same_c ((wideB B).take B.length) B (some ⟨b, 0, none⟩) a (B.length + 3) cap
  rw [wide_take] at cs
  refine CX.callA (cs) ?_ (hpre := by exact fun y hy => ⟨by have := rdx_pre2 (rdx_own (e := 5) (by repeat (first | exact .head _ | apply Pick.tail | apply Upd.tail)) lw.symm y hy) lw.symm B.length (by omega); rwa [wide_take] at this, rdx_ex (by repeat (first | exact .head _ | apply Pick.tail | apply Upd.tail)) hp y hy⟩)
  clear cs
  rintro _ _ ⟨rfl, rfl⟩
  rw [decide_eq_true rfl]
  have e3 : ((B.length + 3 : Nat) : Int) = (B.length : Int) + 3 := by omega
  repeat (first | refine CX.psA ?_ | refine CX.nil ?_ | refine CQ.thenN ?_ | refine CQ.thenR ?_ | refine CQ.thenX ?_ | refine CQ.blockN ?_ | refine CQ.blockR ?_ | refine CQ.blockX ?_ | refine CQ.blockYA ?_ | refine CC.seq ?_ | refine CC.block ?_ | refine CC.region ?_ | refine CC.skip ?_ | refine CC.ret ?_ | refine CC.exit ?_ | refine CC.condTA ?_ | refine CC.condFA ?_ | refine CC.condDTA ?_ | refine CC.condDFA ?_ | refine CX.storeA ?_ | refine CX.skipA ?_)
  refine CX.ps (PS.slice3 (l := 0) (h := B.length + 3) (m := B.length + 3) rfl rfl rfl rfl rfl (.inl ⟨rfl, rfl⟩) ⟨_, rfl⟩ (by omega) (by omega) (by omega)) ?_
  rw [cut0]
  repeat (first | refine CX.psA ?_ | refine CX.nil ?_ | refine CQ.thenN ?_ | refine CQ.thenR ?_ | refine CQ.thenX ?_ | refine CQ.blockN ?_ | refine CQ.blockR ?_ | refine CQ.blockX ?_ | refine CQ.blockYA ?_ | refine CC.seq ?_ | refine CC.block ?_ | refine CC.region ?_ | refine CC.skip ?_ | refine CC.ret ?_ | refine CC.exit ?_ | refine CC.condTA ?_ | refine CC.condFA ?_ | refine CC.condDTA ?_ | refine CC.condDFA ?_ | refine CX.storeA ?_ | refine CX.skipA ?_)
  (refine CX.index0 (B.length) ?_ ?_; (· omega))
  (refine CX.loadA _ (CellAt.ownB (j := B.length) (by repeat (first | exact .head _ | apply Pick.tail | apply Upd.tail)) (by omega)) ?_)
  rw [w1 _ _ (by omega)]
  repeat (first | refine CX.psA ?_ | refine CX.nil ?_ | refine CQ.thenN ?_ | refine CQ.thenR ?_ | refine CQ.thenX ?_ | refine CQ.blockN ?_ | refine CQ.blockR ?_ | refine CQ.blockX ?_ | refine CQ.blockYA ?_ | refine CC.seq ?_ | refine CC.block ?_ | refine CC.region ?_ | refine CC.skip ?_ | refine CC.ret ?_ | refine CC.exit ?_ | refine CC.condTA ?_ | refine CC.condFA ?_ | refine CC.condDTA ?_ | refine CC.condDFA ?_ | refine CX.storeA ?_ | refine CX.skipA ?_)
  (refine CX.index0 (B.length + 1) ?_ ?_; (· omega))
  (refine CX.loadA _ (CellAt.ownB (j := B.length + 1) (by repeat (first | exact .head _ | apply Pick.tail | apply Upd.tail)) (by omega)) ?_)
  rw [w1 _ _ (by omega)]
  repeat (first | refine CX.psA ?_ | refine CX.nil ?_ | refine CQ.thenN ?_ | refine CQ.thenR ?_ | refine CQ.thenX ?_ | refine CQ.blockN ?_ | refine CQ.blockR ?_ | refine CQ.blockX ?_ | refine CQ.blockYA ?_ | refine CC.seq ?_ | refine CC.block ?_ | refine CC.region ?_ | refine CC.skip ?_ | refine CC.ret ?_ | refine CC.exit ?_ | refine CC.condTA ?_ | refine CC.condFA ?_ | refine CC.condDTA ?_ | refine CC.condDFA ?_ | refine CX.storeA ?_ | refine CX.skipA ?_)
  (refine CX.index0 (B.length + 2) ?_ ?_; (· omega))
  (refine CX.loadA _ (CellAt.ownB (j := B.length + 2) (by repeat (first | exact .head _ | apply Pick.tail | apply Upd.tail)) (by omega)) ?_)
  rw [w1 _ _ (by omega)]
  repeat (first | refine CX.psA ?_ | refine CX.nil ?_ | refine CQ.thenN ?_ | refine CQ.thenR ?_ | refine CQ.thenX ?_ | refine CQ.blockN ?_ | refine CQ.blockR ?_ | refine CQ.blockX ?_ | refine CQ.blockYA ?_ | refine CC.seq ?_ | refine CC.block ?_ | refine CC.region ?_ | refine CC.skip ?_ | refine CC.ret ?_ | refine CC.exit ?_ | refine CC.condTA ?_ | refine CC.condFA ?_ | refine CC.condDTA ?_ | refine CC.condDFA ?_ | refine CX.storeA ?_ | refine CX.skipA ?_)
  ((apply CQ.end1; (· rfl); (· exact .tmp rfl)); (· exact ⟨rfl, rfl⟩); (· repeat (first | exact Sel.nil _ | (apply Sel.cons; (· repeat (first | exact .head _ | apply Pick.tail | apply Upd.tail))))))
theorem spoil_c (Z : Blk) (n cap : Nat) (a : Option Addr) (y : UInt8) (hZ : Z.length = cap) (hc : cap ≤ 9223372036854775807) (ha : a = none → cap = 0) : Ctr Try.prog 40 [.slice a n cap, .int .u8 (y.toNat : Int)] [own 5 1 a cap cap (cb Z)] (fun _ => True) (fun v M => v = .tuple #[] ∧ M = []) := by
  refine Ctr.intro Try.func40 rfl Try.ntmps40 rfl fun x w hp => ?_
  refine CC.fact (p := a = none ∨ ∃ b o, a = some ⟨b, o, none⟩) (fun h hs => ?_) ?_
  · rcases own_some (Sep.head hs) with ⟨h, _⟩ | ⟨b, h⟩
    · exact .inl h
    · exact .inr ⟨b, 0, h⟩
  intro hab
  have cut0 : cutAt a 0 cap 1 = a := by
    rcases hab with rfl | ⟨b, o, rfl⟩ <;> unfold cutAt <;> split <;> simp [addr_add]
  repeat (first | refine CX.psA ?_ | refine CX.nil ?_ | refine CQ.thenN ?_ | refine CQ.thenR ?_ | refine CQ.thenX ?_ | refine CQ.blockN ?_ | refine CQ.blockR ?_ | refine CQ.blockX ?_ | refine CQ.blockYA ?_ | refine CC.seq ?_ | refine CC.block ?_ | refine CC.region ?_ | refine CC.skip ?_ | refine CC.ret ?_ | refine CC.exit ?_ | refine CC.condTA ?_ | refine CC.condFA ?_ | refine CC.condDTA ?_ | refine CC.condDFA ?_ | refine CX.storeA ?_ | refine CX.skipA ?_)
  refine CX.ps (PS.slice3 (l := 0) (h := cap) (m := cap) rfl rfl rfl rfl rfl (.inl ⟨rfl, rfl⟩) ⟨_, rfl⟩ (by omega) (by omega) (by omega)) ?_
  rw [cut0]
  repeat (first | refine CX.psA ?_ | refine CX.nil ?_ | refine CQ.thenN ?_ | refine CQ.thenR ?_ | refine CQ.thenX ?_ | refine CQ.blockN ?_ | refine CQ.blockR ?_ | refine CQ.blockX ?_ | refine CQ.blockYA ?_ | refine CC.seq ?_ | refine CC.block ?_ | refine CC.region ?_ | refine CC.skip ?_ | refine CC.ret ?_ | refine CC.exit ?_ | refine CC.condTA ?_ | refine CC.condFA ?_ | refine CC.condDTA ?_ | refine CC.condDFA ?_ | refine CX.storeA ?_ | refine CX.skipA ?_)
  refine CC.loop (X := Nat × Blk) (fun s => [(5, .int .i64 (s.1 : Int)), (4, .slice a (cap - 0) (cap - 0)), (1, .int .u8 (y.toNat : Int))])
    (fun s => [own 5 1 a cap cap (cb s.2), exact x]) (fun s => s.1 ≤ cap ∧ s.2.length = cap) (fun s => cap - s.1) (0, Z) ⟨Nat.zero_le _, hZ⟩ ⟨rfl, rfl, rfl, trivial⟩ (by repeat (first | exact Sel.nil _ | (apply Sel.cons; (· repeat (first | exact .head _ | apply Pick.tail | apply Upd.tail))))) ?_
  rintro ⟨i, Y⟩ ⟨hi, hY⟩
  dsimp only at hi hY ⊢
  by_cases h1 : i < cap
  · refine CC.fact (p := ∃ b, a = some ⟨b, 0, none⟩) (fun h hs => ?_) ?_
    · rcases own_some (Sep.head hs) with ⟨_, h0, _⟩ | h
      · omega
      · exact h
    rintro ⟨b, rfl⟩
    have k1 : i < Y.length := by omega
    repeat (first | refine CX.psA ?_ | refine CX.nil ?_ | refine CQ.thenN ?_ | refine CQ.thenR ?_ | refine CQ.thenX ?_ | refine CQ.blockN ?_ | refine CQ.blockR ?_ | refine CQ.blockX ?_ | refine CQ.blockYA ?_ | refine CC.seq ?_ | refine CC.block ?_ | refine CC.region ?_ | refine CC.skip ?_ | refine CC.ret ?_ | refine CC.exit ?_ | refine CC.condTA ?_ | refine CC.condFA ?_ | refine CC.condDTA ?_ | refine CC.condDFA ?_ | refine CX.storeA ?_ | refine CX.skipA ?_)
    (refine CX.index0 (i) ?_ ?_; (· omega))
    (refine CX.loadA _ (CellAt.ownB (j := i) (by repeat (first | exact .head _ | apply Pick.tail | apply Upd.tail)) k1) ?_)
    repeat (first | refine CX.psA ?_ | refine CX.nil ?_ | refine CQ.thenN ?_ | refine CQ.thenR ?_ | refine CQ.thenX ?_ | refine CQ.blockN ?_ | refine CQ.blockR ?_ | refine CQ.blockX ?_ | refine CQ.blockYA ?_ | refine CC.seq ?_ | refine CC.block ?_ | refine CC.region ?_ | refine CC.skip ?_ | refine CC.ret ?_ | refine CC.exit ?_ | refine CC.condTA ?_ | refine CC.condFA ?_ | refine CC.condDTA ?_ | refine CC.condDFA ?_ | refine CX.storeA ?_ | refine CX.skipA ?_)
    refine CX.ps (PS.xorN (k := .u8) Y[i].toNat y.toNat rfl (UInt8.toNat_lt _) (UInt8.toNat_lt _) rfl rfl rfl) ?_
    rw [← UInt8.toNat_xor]
    (refine CX.index0 (i) ?_ ?_; (· omega))
    (refine CX.storeOB (i) (Y[i] ^^^ y) ?_ ?_ ?_; (· exact k1); (· omega))
    repeat (first | refine CX.psA ?_ | refine CX.nil ?_ | refine CQ.thenN ?_ | refine CQ.thenR ?_ | refine CQ.thenX ?_ | refine CQ.blockN ?_ | refine CQ.blockR ?_ | refine CQ.blockX ?_ | refine CQ.blockYA ?_ | refine CC.seq ?_ | refine CC.block ?_ | refine CC.region ?_ | refine CC.skip ?_ | refine CC.ret ?_ | refine CC.exit ?_ | refine CC.condTA ?_ | refine CC.condFA ?_ | refine CC.condDTA ?_ | refine CC.condDFA ?_ | refine CX.storeA ?_ | refine CX.skipA ?_)
    exact CQ.round (x := (i, Y)) (i + 1, Y.set i (Y[i] ^^^ y)) ⟨by dsimp only; omega, by simp [hY]⟩ (by dsimp only; omega) ⟨eqI (by dsimp only; omega), rfl, rfl, trivial⟩ (by repeat (first | exact Sel.nil _ | (apply Sel.cons; (· repeat (first | exact .head _ | apply Pick.tail | apply Upd.tail)))))
  · repeat (first | refine CX.psA ?_ | refine CX.nil ?_ | refine CQ.thenN ?_ | refine CQ.thenR ?_ | refine CQ.thenX ?_ | refine CQ.blockN ?_ | refine CQ.blockR ?_ | refine CQ.blockX ?_ | refine CQ.blockYA ?_ | refine CC.seq ?_ | refine CC.block ?_ | refine CC.region ?_ | refine CC.skip ?_ | refine CC.ret ?_ | refine CC.exit ?_ | refine CC.condTA ?_ | refine CC.condFA ?_ | refine CC.condDTA ?_ | refine CC.condDFA ?_ | refine CX.storeA ?_ | refine CX.skipA ?_)
    (apply CQ.end0; (· rfl))
    · exact ⟨rfl, rfl⟩
    · repeat (first | exact Sel.nil _ | (apply Sel.cons; (· repeat (first | exact .head _ | apply Pick.tail | apply Upd.tail))))
theorem tells5_c (n : Nat) (hn : n ≤ top) (body : Blk) (hb : body.length ≤ 140737488351232) (a : Option Addr) (cap : Nat) (A B : Blk) (hA : WB A) (hB : WB B) :
    Ctr Try.prog 5 [.int .u64 (n : Int), .slice a body.length cap, .agg (cb A).toArray, .agg (cb B).toArray] [] (fun x => rdx a body.length (cb body) x) (fun v M => v = .bool true ∧ M = []) := by
  have lw := wide_len body
  refine Ctr.intro Try.func5 rfl Try.ntmps5 rfl fun x w hp => ?_
  repeat (first | refine CX.psA ?_ | refine CX.nil ?_ | refine CQ.thenN ?_ | refine CQ.thenR ?_ | refine CQ.thenX ?_ | refine CQ.blockN ?_ | refine CQ.blockR ?_ | refine CQ.blockX ?_ | refine CQ.blockYA ?_ | refine CC.seq ?_ | refine CC.block ?_ | refine CC.region ?_ | refine CC.skip ?_ | refine CC.ret ?_ | refine CC.exit ?_ | refine CC.condTA ?_ | refine CC.condFA ?_ | refine CC.condDTA ?_ | refine CC.condDFA ?_ | refine CX.storeA ?_ | refine CX.skipA ?_)
  (refine CX.boxA ?_; intro rA)
  repeat (first | refine CX.psA ?_ | refine CX.nil ?_ | refine CQ.thenN ?_ | refine CQ.thenR ?_ | refine CQ.thenX ?_ | refine CQ.blockN ?_ | refine CQ.blockR ?_ | refine CQ.blockX ?_ | refine CQ.blockYA ?_ | refine CC.seq ?_ | refine CC.block ?_ | refine CC.region ?_ | refine CC.skip ?_ | refine CC.ret ?_ | refine CC.exit ?_ | refine CC.condTA ?_ | refine CC.condFA ?_ | refine CC.condDTA ?_ | refine CC.condDFA ?_ | refine CX.storeA ?_ | refine CX.skipA ?_)
  (refine CX.boxA ?_; intro rB)
  repeat (first | refine CX.psA ?_ | refine CX.nil ?_ | refine CQ.thenN ?_ | refine CQ.thenR ?_ | refine CQ.thenX ?_ | refine CQ.blockN ?_ | refine CQ.blockR ?_ | refine CQ.blockX ?_ | refine CQ.blockYA ?_ | refine CC.seq ?_ | refine CC.block ?_ | refine CC.region ?_ | refine CC.skip ?_ | refine CC.ret ?_ | refine CC.exit ?_ | refine CC.condTA ?_ | refine CC.condFA ?_ | refine CC.condDTA ?_ | refine CC.condDFA ?_ | refine CX.storeA ?_ | refine CX.skipA ?_)
  refine CX.callA (wide_c body hb a cap) ?_ (hpre := by exact rdx_ex (by repeat (first | exact .head _ | apply Pick.tail | apply Upd.tail)) hp)
  rintro _ _ ⟨wb, rfl, rfl⟩
  repeat (first | refine CX.psA ?_ | refine CX.nil ?_ | refine CQ.thenN ?_ | refine CQ.thenR ?_ | refine CQ.thenX ?_ | refine CQ.blockN ?_ | refine CQ.blockR ?_ | refine CQ.blockX ?_ | refine CQ.blockYA ?_ | refine CC.seq ?_ | refine CC.block ?_ | refine CC.region ?_ | refine CC.skip ?_ | refine CC.ret ?_ | refine CC.exit ?_ | refine CC.condTA ?_ | refine CC.condFA ?_ | refine CC.condDTA ?_ | refine CC.condDFA ?_ | refine CX.storeA ?_ | refine CX.skipA ?_)
  refine CX.callA (sput_c n hn body (by omega) (some ⟨wb, 0, none⟩) (body.length + 3)) ?_ (hpre := by exact fun y hy => by have := rdx_pre2 (rdx_own (e := 5) (by repeat (first | exact .head _ | apply Pick.tail | apply Upd.tail)) lw.symm y hy) lw.symm body.length (by omega); rwa [wide_take] at this)
  rintro _ _ ⟨rfl, rfl⟩
  have wP : WB (putM n body).1 := by
    unfold putM
    split
    · exact WB_z
    split
    · exact WB_z
    · exact sealB_WB (by omega)
  repeat (first | refine CX.psA ?_ | refine CX.nil ?_ | refine CQ.thenN ?_ | refine CQ.thenR ?_ | refine CQ.thenX ?_ | refine CQ.blockN ?_ | refine CQ.blockR ?_ | refine CQ.blockX ?_ | refine CQ.blockYA ?_ | refine CC.seq ?_ | refine CC.block ?_ | refine CC.region ?_ | refine CC.skip ?_ | refine CC.ret ?_ | refine CC.exit ?_ | refine CC.condTA ?_ | refine CC.condFA ?_ | refine CC.condDTA ?_ | refine CC.condDFA ?_ | refine CX.storeA ?_ | refine CX.skipA ?_)
  (refine CX.allocZ (cb zblk) ?_; intro r1)
  repeat (first | refine CX.psA ?_ | refine CX.nil ?_ | refine CQ.thenN ?_ | refine CQ.thenR ?_ | refine CQ.thenX ?_ | refine CQ.blockN ?_ | refine CQ.blockR ?_ | refine CQ.blockX ?_ | refine CQ.blockYA ?_ | refine CC.seq ?_ | refine CC.block ?_ | refine CC.region ?_ | refine CC.skip ?_ | refine CC.ret ?_ | refine CC.exit ?_ | refine CC.condTA ?_ | refine CC.condFA ?_ | refine CC.condDTA ?_ | refine CC.condDFA ?_ | refine CX.storeA ?_ | refine CX.skipA ?_)
  (apply CX.storeAll; (· rfl); (· rfl); (· rfl); (· repeat (first | exact .head _ | apply Pick.tail | apply Upd.tail)); (· exact wP.len); (· exact WB_z.len); (· exact one_cb _))
  repeat (first | refine CX.psA ?_ | refine CX.nil ?_ | refine CQ.thenN ?_ | refine CQ.thenR ?_ | refine CQ.thenX ?_ | refine CQ.blockN ?_ | refine CQ.blockR ?_ | refine CQ.blockX ?_ | refine CQ.blockYA ?_ | refine CC.seq ?_ | refine CC.block ?_ | refine CC.region ?_ | refine CC.skip ?_ | refine CC.ret ?_ | refine CC.exit ?_ | refine CC.condTA ?_ | refine CC.condFA ?_ | refine CC.condDTA ?_ | refine CC.condDFA ?_ | refine CX.storeA ?_ | refine CX.skipA ?_)
  refine CX.callA (r5put_c n hn body (by omega) a cap) ?_ (hpre := by exact rdx_ex (by repeat (first | exact .head _ | apply Pick.tail | apply Upd.tail)) hp)
  rintro _ _ ⟨rfl, rfl⟩
  repeat (first | refine CX.psA ?_ | refine CX.nil ?_ | refine CQ.thenN ?_ | refine CQ.thenR ?_ | refine CQ.thenX ?_ | refine CQ.blockN ?_ | refine CQ.blockR ?_ | refine CQ.blockX ?_ | refine CQ.blockYA ?_ | refine CC.seq ?_ | refine CC.block ?_ | refine CC.region ?_ | refine CC.skip ?_ | refine CC.ret ?_ | refine CC.exit ?_ | refine CC.condTA ?_ | refine CC.condFA ?_ | refine CC.condDTA ?_ | refine CC.condDFA ?_ | refine CX.storeA ?_ | refine CX.skipA ?_)
  (refine CX.allocZ (cb zblk) ?_; intro r2)
  repeat (first | refine CX.psA ?_ | refine CX.nil ?_ | refine CQ.thenN ?_ | refine CQ.thenR ?_ | refine CQ.thenX ?_ | refine CQ.blockN ?_ | refine CQ.blockR ?_ | refine CQ.blockX ?_ | refine CQ.blockYA ?_ | refine CC.seq ?_ | refine CC.block ?_ | refine CC.region ?_ | refine CC.skip ?_ | refine CC.ret ?_ | refine CC.exit ?_ | refine CC.condTA ?_ | refine CC.condFA ?_ | refine CC.condDTA ?_ | refine CC.condDFA ?_ | refine CX.storeA ?_ | refine CX.skipA ?_)
  (apply CX.storeAll; (· rfl); (· rfl); (· rfl); (· repeat (first | exact .head _ | apply Pick.tail | apply Upd.tail)); (· exact wP.len); (· exact WB_z.len); (· exact one_cb _))
  repeat (first | refine CX.psA ?_ | refine CX.nil ?_ | refine CQ.thenN ?_ | refine CQ.thenR ?_ | refine CQ.thenX ?_ | refine CQ.blockN ?_ | refine CQ.blockR ?_ | refine CQ.blockX ?_ | refine CQ.blockYA ?_ | refine CC.seq ?_ | refine CC.block ?_ | refine CC.region ?_ | refine CC.skip ?_ | refine CC.ret ?_ | refine CC.exit ?_ | refine CC.condTA ?_ | refine CC.condFA ?_ | refine CC.condDTA ?_ | refine CC.condDFA ?_ | refine CX.storeA ?_ | refine CX.skipA ?_)
  ((apply CX.ps; (· apply PS.loadG (vs := cb ((putM n body).1)); (· rfl); (· rfl); (· exact CellsAt.all (by repeat (first | exact .head _ | apply Pick.tail | apply Upd.tail))); (· exact wP.len))))
  ((apply CX.ps; (· apply PS.loadG (vs := cb ((putM n body).1)); (· rfl); (· rfl); (· exact CellsAt.all (by repeat (first | exact .head _ | apply Pick.tail | apply Upd.tail))); (· exact wP.len))))
  (apply CX.ps; (· refine PS.toF (PS.neqB (a := (putM n body).1) (b := (putM n body).1) ?_ ?_ ?_ ?_ ?_) ?_; (· rfl); (· rfl); (· rfl); (· exact wP); (· exact wP); (· simp)))
  repeat (first | refine CX.psA ?_ | refine CX.nil ?_ | refine CQ.thenN ?_ | refine CQ.thenR ?_ | refine CQ.thenX ?_ | refine CQ.blockN ?_ | refine CQ.blockR ?_ | refine CQ.blockX ?_ | refine CQ.blockYA ?_ | refine CC.seq ?_ | refine CC.block ?_ | refine CC.region ?_ | refine CC.skip ?_ | refine CC.ret ?_ | refine CC.exit ?_ | refine CC.condTA ?_ | refine CC.condFA ?_ | refine CC.condDTA ?_ | refine CC.condDFA ?_ | refine CX.storeA ?_ | refine CX.skipA ?_)
  refine CX.callA (left_c body hb wb a cap) ?_ (hpre := by exact rdx_ex (by repeat (first | exact .head _ | apply Pick.tail | apply Upd.tail)) hp)
  rintro _ _ ⟨rfl, rfl⟩
  repeat (first | refine CX.psA ?_ | refine CX.nil ?_ | refine CQ.thenN ?_ | refine CQ.thenR ?_ | refine CQ.thenX ?_ | refine CQ.blockN ?_ | refine CQ.blockR ?_ | refine CQ.blockX ?_ | refine CQ.blockYA ?_ | refine CC.seq ?_ | refine CC.block ?_ | refine CC.region ?_ | refine CC.skip ?_ | refine CC.ret ?_ | refine CC.exit ?_ | refine CC.condTA ?_ | refine CC.condFA ?_ | refine CC.condDTA ?_ | refine CC.condDFA ?_ | refine CX.storeA ?_ | refine CX.skipA ?_)
  ((apply CX.ps; (· apply PS.loadG (vs := cb (A)); (· rfl); (· rfl); (· exact CellsAt.all (by repeat (first | exact .head _ | apply Pick.tail | apply Upd.tail))); (· exact hA.len))))
  ((apply CX.ps; (· apply PS.loadG (vs := cb (B)); (· rfl); (· rfl); (· exact CellsAt.all (by repeat (first | exact .head _ | apply Pick.tail | apply Upd.tail))); (· exact hB.len))))
  (apply CX.ps; (· apply PS.buildArr (out := cb A ++ cb B); (· rfl); (· rfl); (· exact fill_two hA hB)))
  refine CX.allocZ (List.replicate 256 (.int .u8 0)) ?_ (hv := by simp [Value.cells])
  intro tw
  refine CX.storeB (vs := cb A ++ cb B) ?_ ?_ ?_ ?_
  · rw [List.length_append, hA.len, hB.len]
  · simp
  · intro u hu
    rcases List.mem_append.1 hu with h | h
    · exact one_cb _ _ h
    · exact one_cb _ _ h
  repeat (first | refine CX.psA ?_ | refine CX.nil ?_ | refine CQ.thenN ?_ | refine CQ.thenR ?_ | refine CQ.thenX ?_ | refine CQ.blockN ?_ | refine CQ.blockR ?_ | refine CQ.blockX ?_ | refine CQ.blockYA ?_ | refine CC.seq ?_ | refine CC.block ?_ | refine CC.region ?_ | refine CC.skip ?_ | refine CC.ret ?_ | refine CC.exit ?_ | refine CC.condTA ?_ | refine CC.condFA ?_ | refine CC.condDTA ?_ | refine CC.condDFA ?_ | refine CX.storeA ?_ | refine CX.skipA ?_)
  refine CC.loop (X := Nat) (fun i => [(15, .int .i64 (i : Int)), (14, .pointer (some ⟨tw, 0, none⟩))])
    (fun i => [bk tw 49 (cb A ++ cb B), exact x]) (fun i => i ≤ 2) (fun i => 2 - i) 0 (Nat.zero_le _) ⟨rfl, rfl, trivial⟩ (by repeat (first | exact Sel.nil _ | (apply Sel.cons; (· repeat (first | exact .head _ | apply Pick.tail | apply Upd.tail))))) ?_
  intro i hi
  by_cases h2 : i < 2
  · have h2' : 1 - i < 2 := by omega
    have pU : ∀ {L L' : List Assn} {q t : Nat}, Pick (bk q t (cb A ++ cb B)) L L' → CellsAt L q (0 + i * 128) (cb (if i = 0 then A else B)) := fun p => two_part p hA h2
    have pV : ∀ {L L' : List Assn} {q t : Nat}, Pick (bk q t (cb A ++ cb B)) L L' → CellsAt L q (0 + (1 - i) * 128) (cb (if 1 - i = 0 then A else B)) := fun p => two_part p hA h2'
    have wU : WB (if i = 0 then A else B) := by split <;> assumption
    have wV : WB (if 1 - i = 0 then A else B) := by split <;> assumption
    generalize (if i = 0 then A else B) = U at pU wU
    generalize (if 1 - i = 0 then A else B) = V at pV wV
    repeat (first | refine CX.psA ?_ | refine CX.nil ?_ | refine CQ.thenN ?_ | refine CQ.thenR ?_ | refine CQ.thenX ?_ | refine CQ.blockN ?_ | refine CQ.blockR ?_ | refine CQ.blockX ?_ | refine CQ.blockYA ?_ | refine CC.seq ?_ | refine CC.block ?_ | refine CC.region ?_ | refine CC.skip ?_ | refine CC.ret ?_ | refine CC.exit ?_ | refine CC.condTA ?_ | refine CC.condFA ?_ | refine CC.condDTA ?_ | refine CC.condDFA ?_ | refine CX.storeA ?_ | refine CX.skipA ?_)
    refine CX.ps (PS.indexArr (j := i) rfl rfl rfl rfl h2) ?_
    (apply CX.ps; (· apply PS.loadG (vs := cb U); (· rfl); (· rfl); (· exact pU (by repeat (first | exact .head _ | apply Pick.tail | apply Upd.tail))); (· exact wU.len)))
    refine CX.callA (sgetF_c U wU) ?_
    rintro _ _ ⟨a1, c1, Z, rfl, rfl, z1, z2, z3, z4⟩
    repeat (first | refine CX.psA ?_ | refine CX.nil ?_ | refine CQ.thenN ?_ | refine CQ.thenR ?_ | refine CQ.thenX ?_ | refine CQ.blockN ?_ | refine CQ.blockR ?_ | refine CQ.blockX ?_ | refine CQ.blockYA ?_ | refine CC.seq ?_ | refine CC.block ?_ | refine CC.region ?_ | refine CC.skip ?_ | refine CC.ret ?_ | refine CC.exit ?_ | refine CC.condTA ?_ | refine CC.condFA ?_ | refine CC.condDTA ?_ | refine CC.condDFA ?_ | refine CX.storeA ?_ | refine CX.skipA ?_)
    refine CX.ps (PS.indexArr (j := i) rfl rfl rfl rfl h2) ?_
    (apply CX.ps; (· apply PS.loadG (vs := cb U); (· rfl); (· rfl); (· exact pU (by repeat (first | exact .head _ | apply Pick.tail | apply Upd.tail))); (· exact wU.len)))
    refine CX.callA (r5get_c U wU) ?_
    rintro _ _ ⟨a2, c2, rfl, rfl⟩
    repeat (first | refine CX.psA ?_ | refine CX.nil ?_ | refine CQ.thenN ?_ | refine CQ.thenR ?_ | refine CQ.thenX ?_ | refine CQ.blockN ?_ | refine CQ.blockR ?_ | refine CQ.blockX ?_ | refine CQ.blockYA ?_ | refine CC.seq ?_ | refine CC.block ?_ | refine CC.region ?_ | refine CC.skip ?_ | refine CC.ret ?_ | refine CC.exit ?_ | refine CC.condTA ?_ | refine CC.condFA ?_ | refine CC.condDTA ?_ | refine CC.condDFA ?_ | refine CX.storeA ?_ | refine CX.skipA ?_)
    have cs := same_c (getM U).2.1 (getM U).2.1 a1 a2 c1 c2
    refine CX.callA (cs) ?_ (hpre := by exact fun y hy => ⟨by have := rdx_front (rdx_own (e := 5) (by repeat (first | exact .head _ | apply Pick.tail | apply Upd.tail)) z1.symm y hy) z1.symm (getM U).2.1.length (by omega); rwa [z3] at this, rdx_own (e := 5) (by repeat (first | exact .head _ | apply Pick.tail | apply Upd.tail)) rfl y hy⟩)
    clear cs
    rintro _ _ ⟨rfl, rfl⟩
    rw [decide_eq_true rfl]
    repeat (first | refine CX.psA ?_ | refine CX.nil ?_ | refine CQ.thenN ?_ | refine CQ.thenR ?_ | refine CQ.thenX ?_ | refine CQ.blockN ?_ | refine CQ.blockR ?_ | refine CQ.blockX ?_ | refine CQ.blockYA ?_ | refine CC.seq ?_ | refine CC.block ?_ | refine CC.region ?_ | refine CC.skip ?_ | refine CC.ret ?_ | refine CC.exit ?_ | refine CC.condTA ?_ | refine CC.condFA ?_ | refine CC.condDTA ?_ | refine CC.condDFA ?_ | refine CX.storeA ?_ | refine CX.skipA ?_)
    refine CX.fact (p := c1 ≤ 9223372036854775807) (fun h hs => own_max (e := 5) (by repeat (first | exact .head _ | apply Pick.tail | apply Upd.tail)) hs) ?_
    intro hc1
    refine CX.callA (spoil_c Z (getM U).2.1.length c1 a1 3 z1 hc1 z4) ?_
    rintro _ _ ⟨rfl, rfl⟩
    repeat (first | refine CX.psA ?_ | refine CX.nil ?_ | refine CQ.thenN ?_ | refine CQ.thenR ?_ | refine CQ.thenX ?_ | refine CQ.blockN ?_ | refine CQ.blockR ?_ | refine CQ.blockX ?_ | refine CQ.blockYA ?_ | refine CC.seq ?_ | refine CC.block ?_ | refine CC.region ?_ | refine CC.skip ?_ | refine CC.ret ?_ | refine CC.exit ?_ | refine CC.condTA ?_ | refine CC.condFA ?_ | refine CC.condDTA ?_ | refine CC.condDFA ?_ | refine CX.storeA ?_ | refine CX.skipA ?_)
    refine CX.ps (PS.indexArr (j := i) rfl rfl rfl rfl h2) ?_
    (apply CX.ps; (· apply PS.loadG (vs := cb U); (· rfl); (· rfl); (· exact pU (by repeat (first | exact .head _ | apply Pick.tail | apply Upd.tail))); (· exact wU.len)))
    refine CX.callA (sget_c U wU) ?_
    rintro _ _ ⟨a3, c3, rfl, rfl⟩
    repeat (first | refine CX.psA ?_ | refine CX.nil ?_ | refine CQ.thenN ?_ | refine CQ.thenR ?_ | refine CQ.thenX ?_ | refine CQ.blockN ?_ | refine CQ.blockR ?_ | refine CQ.blockX ?_ | refine CQ.blockYA ?_ | refine CC.seq ?_ | refine CC.block ?_ | refine CC.region ?_ | refine CC.skip ?_ | refine CC.ret ?_ | refine CC.exit ?_ | refine CC.condTA ?_ | refine CC.condFA ?_ | refine CC.condDTA ?_ | refine CC.condDFA ?_ | refine CX.storeA ?_ | refine CX.skipA ?_)
    refine CC.draw [(0, 0), (1, 0), (2, 1), (3, 0), (4, 0), (5, 0), (6, 1), (7, 3), (8, 0), (9, 0), (10, 0), (11, 0), (12, 0)] mixed rfl (by kernel_rfl) (by kernel_rfl) [bk tw 49 (cb A ++ cb B)] ?_
    repeat (first | refine CH.pureA ?_ | refine CH.readA ?_ | refine CH.skA ?_ | refine CH.skCA ?_ | refine CH.nil ?_)
    (apply CH.pure; (· rfl); (· apply PS.indexArr (j := i); (· rfl); (· rfl); (· rfl); (· rfl); (· exact h2)))
    (apply CH.read; (· rfl); (· apply PS.loadG (vs := cb U); (· rfl); (· rfl); (· exact pU (by repeat (first | exact .head _ | apply Pick.tail | apply Upd.tail))); (· exact wU.len)); (· repeat (first | exact Sel.nil _ | (apply Sel.cons; (· repeat (first | exact .head _ | apply Pick.tail | apply Upd.tail))))))
    repeat (first | refine CH.pureA ?_ | refine CH.readA ?_ | refine CH.skA ?_ | refine CH.skCA ?_ | refine CH.nil ?_)
    (apply CH.pure; (· rfl); (· apply PS.indexArr (j := 1 - i); (· rfl); (· rfl); (· rfl); (· omega); (· exact h2')))
    (apply CH.read; (· rfl); (· apply PS.loadG (vs := cb V); (· rfl); (· rfl); (· exact pV (by repeat (first | exact .head _ | apply Pick.tail | apply Upd.tail))); (· exact wV.len)); (· repeat (first | exact Sel.nil _ | (apply Sel.cons; (· repeat (first | exact .head _ | apply Pick.tail | apply Upd.tail))))))
    refine CH.tail rfl rfl fun K hK => ?_
    refine CX.callA (snewest_c U V wU wV) ?_
    rintro _ _ ⟨rfl, rfl⟩
    (refine CX.nil ?_; refine CQ.thenK ?_; apply hK; clear hK K)
    repeat (first | refine CH.pureA ?_ | refine CH.readA ?_ | refine CH.skA ?_ | refine CH.skCA ?_ | refine CH.nil ?_)
    repeat (first | refine CX.psA ?_ | refine CX.nil ?_ | refine CQ.thenN ?_ | refine CQ.thenR ?_ | refine CQ.thenX ?_ | refine CQ.blockN ?_ | refine CQ.blockR ?_ | refine CQ.blockX ?_ | refine CQ.blockYA ?_ | refine CC.seq ?_ | refine CC.block ?_ | refine CC.region ?_ | refine CC.skip ?_ | refine CC.ret ?_ | refine CC.exit ?_ | refine CC.condTA ?_ | refine CC.condFA ?_ | refine CC.condDTA ?_ | refine CC.condDFA ?_ | refine CX.storeA ?_ | refine CX.skipA ?_)
    refine CC.draw [(0, 0), (1, 0), (2, 1), (3, 0), (4, 0), (5, 0), (6, 1), (7, 3), (8, 0), (9, 0), (10, 0), (11, 0), (12, 0)] mixed rfl (by kernel_rfl) (by kernel_rfl) [bk tw 49 (cb A ++ cb B)] ?_
    repeat (first | refine CH.pureA ?_ | refine CH.readA ?_ | refine CH.skA ?_ | refine CH.skCA ?_ | refine CH.nil ?_)
    (apply CH.pure; (· rfl); (· apply PS.indexArr (j := i); (· rfl); (· rfl); (· rfl); (· rfl); (· exact h2)))
    (apply CH.read; (· rfl); (· apply PS.loadG (vs := cb U); (· rfl); (· rfl); (· exact pU (by repeat (first | exact .head _ | apply Pick.tail | apply Upd.tail))); (· exact wU.len)); (· repeat (first | exact Sel.nil _ | (apply Sel.cons; (· repeat (first | exact .head _ | apply Pick.tail | apply Upd.tail))))))
    repeat (first | refine CH.pureA ?_ | refine CH.readA ?_ | refine CH.skA ?_ | refine CH.skCA ?_ | refine CH.nil ?_)
    (apply CH.pure; (· rfl); (· apply PS.indexArr (j := 1 - i); (· rfl); (· rfl); (· rfl); (· omega); (· exact h2')))
    (apply CH.read; (· rfl); (· apply PS.loadG (vs := cb V); (· rfl); (· rfl); (· exact pV (by repeat (first | exact .head _ | apply Pick.tail | apply Upd.tail))); (· exact wV.len)); (· repeat (first | exact Sel.nil _ | (apply Sel.cons; (· repeat (first | exact .head _ | apply Pick.tail | apply Upd.tail))))))
    refine CH.tail rfl rfl fun K hK => ?_
    refine CX.callA (r5newest_c U V wU wV) ?_
    rintro _ _ ⟨rfl, rfl⟩
    (refine CX.nil ?_; refine CQ.thenK ?_; apply hK; clear hK K)
    repeat (first | refine CH.pureA ?_ | refine CH.readA ?_ | refine CH.skA ?_ | refine CH.skCA ?_ | refine CH.nil ?_)
    repeat (first | refine CX.psA ?_ | refine CX.nil ?_ | refine CQ.thenN ?_ | refine CQ.thenR ?_ | refine CQ.thenX ?_ | refine CQ.blockN ?_ | refine CQ.blockR ?_ | refine CQ.blockX ?_ | refine CQ.blockYA ?_ | refine CC.seq ?_ | refine CC.block ?_ | refine CC.region ?_ | refine CC.skip ?_ | refine CC.ret ?_ | refine CC.exit ?_ | refine CC.condTA ?_ | refine CC.condFA ?_ | refine CC.condDTA ?_ | refine CC.condDFA ?_ | refine CX.storeA ?_ | refine CX.skipA ?_)
    refine CC.draw [(0, 0), (1, 0), (2, 2), (3, 0), (4, 0), (5, 0), (6, 0), (7, 0), (8, 0), (9, 0), (10, 0), (11, 0), (12, 0), (13, 0), (14, 0), (15, 0), (16, 0), (17, 1), (18, 0), (19, 0), (20, 0), (21, 1), (23, 0), (24, 0), (25, 1), (26, 0), (27, 0), (28, 0), (29, 1), (22, 2), (30, 2), (31, 0), (32, 0)] mixed rfl (by kernel_rfl) (by kernel_rfl) [bk tw 49 (cb A ++ cb B)] ?_
    repeat (first | refine CH.pureA ?_ | refine CH.readA ?_ | refine CH.skA ?_ | refine CH.skCA ?_ | refine CH.nil ?_)
    refine CH.chain rfl fun K hK => ?_
    have cs := same_c (getM U).2.1 (getM U).2.1 a3 a2 c3 c2
    refine CX.callA (cs) ?_ (hpre := by exact fun y hy => ⟨rdx_own (e := 5) (by repeat (first | exact .head _ | apply Pick.tail | apply Upd.tail)) rfl y hy, rdx_own (e := 5) (by repeat (first | exact .head _ | apply Pick.tail | apply Upd.tail)) rfl y hy⟩)
    clear cs
    rintro _ _ ⟨rfl, rfl⟩
    rw [decide_eq_true rfl]
    (refine CX.nil ?_; refine CQ.thenK ?_; apply hK; (· repeat (first | exact Sel.nil _ | (apply Sel.cons; (· repeat (first | exact .head _ | apply Pick.tail | apply Upd.tail))))); clear hK K)
    repeat (first | refine CH.pureA ?_ | refine CH.readA ?_ | refine CH.skA ?_ | refine CH.skCA ?_ | refine CH.nil ?_)
    (apply CH.pure; (· rfl); (· apply PS.indexArr (j := i); (· rfl); (· rfl); (· rfl); (· rfl); (· exact h2)))
    (apply CH.read; (· rfl); (· apply PS.loadG (vs := cb U); (· rfl); (· rfl); (· exact pU (by repeat (first | exact .head _ | apply Pick.tail | apply Upd.tail))); (· exact wU.len)); (· repeat (first | exact Sel.nil _ | (apply Sel.cons; (· repeat (first | exact .head _ | apply Pick.tail | apply Upd.tail))))))
    repeat (first | refine CH.pureA ?_ | refine CH.readA ?_ | refine CH.skA ?_ | refine CH.skCA ?_ | refine CH.nil ?_)
    (apply CH.pure; (· rfl); (· apply PS.indexArr (j := 1 - i); (· rfl); (· rfl); (· rfl); (· omega); (· exact h2')))
    (apply CH.read; (· rfl); (· apply PS.loadG (vs := cb V); (· rfl); (· rfl); (· exact pV (by repeat (first | exact .head _ | apply Pick.tail | apply Upd.tail))); (· exact wV.len)); (· repeat (first | exact Sel.nil _ | (apply Sel.cons; (· repeat (first | exact .head _ | apply Pick.tail | apply Upd.tail))))))
    repeat (first | refine CH.pureA ?_ | refine CH.readA ?_ | refine CH.skA ?_ | refine CH.skCA ?_ | refine CH.nil ?_)
    (apply CH.pure; (· rfl); (· apply PS.indexArr (j := i); (· rfl); (· rfl); (· rfl); (· rfl); (· exact h2)))
    (apply CH.read; (· rfl); (· apply PS.loadG (vs := cb U); (· rfl); (· rfl); (· exact pU (by repeat (first | exact .head _ | apply Pick.tail | apply Upd.tail))); (· exact wU.len)); (· repeat (first | exact Sel.nil _ | (apply Sel.cons; (· repeat (first | exact .head _ | apply Pick.tail | apply Upd.tail))))))
    repeat (first | refine CH.pureA ?_ | refine CH.readA ?_ | refine CH.skA ?_ | refine CH.skCA ?_ | refine CH.nil ?_)
    (apply CH.pure; (· rfl); (· apply PS.indexArr (j := 1 - i); (· rfl); (· rfl); (· rfl); (· omega); (· exact h2')))
    (apply CH.read; (· rfl); (· apply PS.loadG (vs := cb V); (· rfl); (· rfl); (· exact pV (by repeat (first | exact .head _ | apply Pick.tail | apply Upd.tail))); (· exact wV.len)); (· repeat (first | exact Sel.nil _ | (apply Sel.cons; (· repeat (first | exact .head _ | apply Pick.tail | apply Upd.tail))))))
    refine CH.chain rfl fun K hK => ?_
    refine CX.callA (snext_c U V wU wV) ?_
    rintro _ _ ⟨rfl, rfl⟩
    (refine CX.nil ?_; refine CQ.thenK ?_; apply hK; (· repeat (first | exact Sel.nil _ | (apply Sel.cons; (· repeat (first | exact .head _ | apply Pick.tail | apply Upd.tail))))); clear hK K)
    refine CH.chain rfl fun K hK => ?_
    refine CX.callA (r5next_c U V wU wV) ?_
    rintro _ _ ⟨rfl, rfl⟩
    (refine CX.nil ?_; refine CQ.thenK ?_; apply hK; (· repeat (first | exact Sel.nil _ | (apply Sel.cons; (· repeat (first | exact .head _ | apply Pick.tail | apply Upd.tail))))); clear hK K)
    repeat (first | refine CH.pureA ?_ | refine CH.readA ?_ | refine CH.skA ?_ | refine CH.skCA ?_ | refine CH.nil ?_)
    repeat (first | refine CX.psA ?_ | refine CX.nil ?_ | refine CQ.thenN ?_ | refine CQ.thenR ?_ | refine CQ.thenX ?_ | refine CQ.blockN ?_ | refine CQ.blockR ?_ | refine CQ.blockX ?_ | refine CQ.blockYA ?_ | refine CC.seq ?_ | refine CC.block ?_ | refine CC.region ?_ | refine CC.skip ?_ | refine CC.ret ?_ | refine CC.exit ?_ | refine CC.condTA ?_ | refine CC.condFA ?_ | refine CC.condDTA ?_ | refine CC.condDFA ?_ | refine CX.storeA ?_ | refine CX.skipA ?_)
    exact CQ.round (i + 1) (by omega) (by omega) ⟨eqI (by omega), rfl, trivial⟩ (by repeat (first | exact Sel.nil _ | (apply Sel.cons; (· repeat (first | exact .head _ | apply Pick.tail | apply Upd.tail)))))
  · repeat (first | refine CX.psA ?_ | refine CX.nil ?_ | refine CQ.thenN ?_ | refine CQ.thenR ?_ | refine CQ.thenX ?_ | refine CQ.blockN ?_ | refine CQ.blockR ?_ | refine CQ.blockX ?_ | refine CQ.blockYA ?_ | refine CC.seq ?_ | refine CC.block ?_ | refine CC.region ?_ | refine CC.skip ?_ | refine CC.ret ?_ | refine CC.exit ?_ | refine CC.condTA ?_ | refine CC.condFA ?_ | refine CC.condDTA ?_ | refine CC.condDFA ?_ | refine CX.storeA ?_ | refine CX.skipA ?_)
    refine CX.callA (lives5_c) ?_
    rintro _ _ ⟨rfl, rfl⟩
    repeat (first | refine CX.psA ?_ | refine CX.nil ?_ | refine CQ.thenN ?_ | refine CQ.thenR ?_ | refine CQ.thenX ?_ | refine CQ.blockN ?_ | refine CQ.blockR ?_ | refine CQ.blockX ?_ | refine CQ.blockYA ?_ | refine CC.seq ?_ | refine CC.block ?_ | refine CC.region ?_ | refine CC.skip ?_ | refine CC.ret ?_ | refine CC.exit ?_ | refine CC.condTA ?_ | refine CC.condFA ?_ | refine CC.condDTA ?_ | refine CC.condDFA ?_ | refine CX.storeA ?_ | refine CX.skipA ?_)
    ((apply CQ.end1; (· rfl); (· exact .tmp rfl)); (· exact ⟨rfl, rfl⟩); (· repeat (first | exact Sel.nil _ | (apply Sel.cons; (· repeat (first | exact .head _ | apply Pick.tail | apply Upd.tail))))))
end Go.Proofs.Ytlckhaodecdbbaa
