/- What bytes leave when they are divided (crc), in the program. -/
import Derived.Test.YtlckhaodecdbbaaNm
set_option linter.unusedVariables false
set_option linter.unusedSimpArgs false
namespace Go.Cx
def fourT : List Nat := [0, 274646895, 549293790, 820201905, 1098587580, 1361435347, 1640403810, 1905808397, 2197175160, 2460548119, 2722870694, 2987750089, 3280807620, 3553878443, 3811616794, 4084100981]
def fourC : List Value := fourT.map fun z : Nat => .int .u32 (z : Int)
theorem four_at : ∀ j, j < 16 → fourT[j]? = some (four j) := by decide
theorem fourC_at (j : Nat) (h : j < 16) : fourC[0 + j * 1]? = some (.int .u32 (four j : Int)) := by
  rw [Nat.zero_add, Nat.mul_one, fourC, List.getElem?_map, four_at j h]; rfl
theorem four_lt (j : Nat) (h : j < 16) : four j < 2 ^ 32 := bits_lt 4 (by omega)
theorem and15 (a : Nat) : a &&& 15 = a % 16 := by rw [show (15 : Nat) = 2 ^ 4 - 1 from rfl, Nat.and_two_pow_sub_one_eq_mod]
theorem half_of (c : UInt8) : c.toNat &&& 15 < 16 ∧ c.toNat >>> 4 < 16 := by
  have := c.toNat_lt
  rw [and15, Nat.shiftRight_eq_div_pow]; omega
end Go.Cx
namespace Go.Proofs.Ytlckhaodecdbbaa
open Go.Cx
attribute [local irreducible] Go.Cx.CX Go.Cx.CC Go.Cx.CQ Go.Cx.PS Go.Cx.Ctr Go.Cx.CH
set_option maxRecDepth 10000
theorem fours_c : Ctr Try.prog 175 [] [] (fun _ => True) (fun v M => v = .agg fourC.toArray ∧ M = []) := by
  refine Ctr.intro Try.func175 rfl Try.ntmps175 rfl fun x w hp => ?_
  repeat (first | refine CX.psA ?_ | refine CX.nil ?_ | refine CQ.thenN ?_ | refine CQ.thenR ?_ | refine CQ.thenX ?_ | refine CQ.blockN ?_ | refine CQ.blockR ?_ | refine CQ.blockX ?_ | refine CQ.blockYA ?_ | refine CC.seq ?_ | refine CC.block ?_ | refine CC.region ?_ | refine CC.skip ?_ | refine CC.ret ?_ | refine CC.exit ?_ | refine CC.condTA ?_ | refine CC.condFA ?_ | refine CC.condDTA ?_ | refine CC.condDFA ?_ | refine CX.storeA ?_ | refine CX.skipA ?_)
  (refine CX.allocA ?_; intro r)
  repeat (first | refine CX.psA ?_ | refine CX.nil ?_ | refine CQ.thenN ?_ | refine CQ.thenR ?_ | refine CQ.thenX ?_ | refine CQ.blockN ?_ | refine CQ.blockR ?_ | refine CQ.blockX ?_ | refine CQ.blockYA ?_ | refine CC.seq ?_ | refine CC.block ?_ | refine CC.region ?_ | refine CC.skip ?_ | refine CC.ret ?_ | refine CC.exit ?_ | refine CC.condTA ?_ | refine CC.condFA ?_ | refine CC.condDTA ?_ | refine CC.condDFA ?_ | refine CX.storeA ?_ | refine CX.skipA ?_)
  (apply CX.ps; (· apply PS.buildArr (out := fourC); (· rfl); (· rfl); (· rfl)))
  (refine CX.storeB (vs := fourC) ?_ ?_ ?_ ?_; (· rfl); (· rfl); (· exact one_all rfl))
  repeat (first | refine CX.psA ?_ | refine CX.nil ?_ | refine CQ.thenN ?_ | refine CQ.thenR ?_ | refine CQ.thenX ?_ | refine CQ.blockN ?_ | refine CQ.blockR ?_ | refine CQ.blockX ?_ | refine CQ.blockYA ?_ | refine CC.seq ?_ | refine CC.block ?_ | refine CC.region ?_ | refine CC.skip ?_ | refine CC.ret ?_ | refine CC.exit ?_ | refine CC.condTA ?_ | refine CC.condFA ?_ | refine CC.condDTA ?_ | refine CC.condDFA ?_ | refine CX.storeA ?_ | refine CX.skipA ?_)
  ((apply CQ.end1; (· rfl); (· exact .cells inferInstance rfl (CellsAt.all (by repeat (first | exact .head _ | apply Pick.tail | apply Upd.tail))) (rfl))); (· exact ⟨rfl, rfl⟩); (· repeat (first | exact Sel.nil _ | (apply Sel.cons; (· repeat (first | exact .head _ | apply Pick.tail | apply Upd.tail))))))
theorem into_c (r : Nat) (hr : r < 2 ^ 32) (c : UInt8) : Ctr Try.prog 172 [.int .u32 (r : Int), .int .u8 (c.toNat : Int)] [] (fun _ => True) (fun v M => v = .int .u32 ((intoM r c : Nat) : Int) ∧ M = []) := by
  obtain ⟨h1, h2⟩ := half_of c
  have hc := c.toNat_lt
  refine Ctr.intro Try.func172 rfl Try.ntmps172 rfl fun x w hp => ?_
  repeat (first | refine CX.psA ?_ | refine CX.nil ?_ | refine CQ.thenN ?_ | refine CQ.thenR ?_ | refine CQ.thenX ?_ | refine CQ.blockN ?_ | refine CQ.blockR ?_ | refine CQ.blockX ?_ | refine CQ.blockYA ?_ | refine CC.seq ?_ | refine CC.block ?_ | refine CC.region ?_ | refine CC.skip ?_ | refine CC.ret ?_ | refine CC.exit ?_ | refine CC.condTA ?_ | refine CC.condFA ?_ | refine CC.condDTA ?_ | refine CC.condDFA ?_ | refine CX.storeA ?_ | refine CX.skipA ?_)
  refine CX.callA (fours_c) ?_
  rintro _ _ ⟨rfl, rfl⟩
  repeat (first | refine CX.psA ?_ | refine CX.nil ?_ | refine CQ.thenN ?_ | refine CQ.thenR ?_ | refine CQ.thenX ?_ | refine CQ.blockN ?_ | refine CQ.blockR ?_ | refine CQ.blockX ?_ | refine CQ.blockYA ?_ | refine CC.seq ?_ | refine CC.block ?_ | refine CC.region ?_ | refine CC.skip ?_ | refine CC.ret ?_ | refine CC.exit ?_ | refine CC.condTA ?_ | refine CC.condFA ?_ | refine CC.condDTA ?_ | refine CC.condDFA ?_ | refine CX.storeA ?_ | refine CX.skipA ?_)
  (refine CX.allocA ?_; intro t)
  repeat (first | refine CX.psA ?_ | refine CX.nil ?_ | refine CQ.thenN ?_ | refine CQ.thenR ?_ | refine CQ.thenX ?_ | refine CQ.blockN ?_ | refine CQ.blockR ?_ | refine CQ.blockX ?_ | refine CQ.blockYA ?_ | refine CC.seq ?_ | refine CC.block ?_ | refine CC.region ?_ | refine CC.skip ?_ | refine CC.ret ?_ | refine CC.exit ?_ | refine CC.condTA ?_ | refine CC.condFA ?_ | refine CC.condDTA ?_ | refine CC.condDFA ?_ | refine CX.storeA ?_ | refine CX.skipA ?_)
  (refine CX.storeB (vs := fourC) ?_ ?_ ?_ ?_; (· rfl); (· rfl); (· exact one_all rfl))
  repeat (first | refine CX.psA ?_ | refine CX.nil ?_ | refine CQ.thenN ?_ | refine CQ.thenR ?_ | refine CQ.thenX ?_ | refine CQ.blockN ?_ | refine CQ.blockR ?_ | refine CQ.blockX ?_ | refine CQ.blockYA ?_ | refine CC.seq ?_ | refine CC.block ?_ | refine CC.region ?_ | refine CC.skip ?_ | refine CC.ret ?_ | refine CC.exit ?_ | refine CC.condTA ?_ | refine CC.condFA ?_ | refine CC.condDTA ?_ | refine CC.condDFA ?_ | refine CX.storeA ?_ | refine CX.skipA ?_)
  refine CX.ps (PS.andN (k := .u8) c.toNat 15 rfl hc (by decide) rfl rfl rfl) ?_
  repeat (first | refine CX.psA ?_ | refine CX.nil ?_ | refine CQ.thenN ?_ | refine CQ.thenR ?_ | refine CQ.thenX ?_ | refine CQ.blockN ?_ | refine CQ.blockR ?_ | refine CQ.blockX ?_ | refine CQ.blockYA ?_ | refine CC.seq ?_ | refine CC.block ?_ | refine CC.region ?_ | refine CC.skip ?_ | refine CC.ret ?_ | refine CC.exit ?_ | refine CC.condTA ?_ | refine CC.condFA ?_ | refine CC.condDTA ?_ | refine CC.condDFA ?_ | refine CX.storeA ?_ | refine CX.skipA ?_)
  refine CX.ps (PS.shrN c.toNat 4 (by decide) rfl rfl rfl) ?_
  (apply CX.ps; (· apply PS.buildArr (out := [.int .u8 ((c.toNat &&& 15 : Nat) : Int), .int .u8 ((c.toNat / 2 ^ 4 : Nat) : Int)]); (· rfl); (· rfl); (· rfl)))
  repeat (first | refine CX.psA ?_ | refine CX.nil ?_ | refine CQ.thenN ?_ | refine CQ.thenR ?_ | refine CQ.thenX ?_ | refine CQ.blockN ?_ | refine CQ.blockR ?_ | refine CQ.blockX ?_ | refine CQ.blockYA ?_ | refine CC.seq ?_ | refine CC.block ?_ | refine CC.region ?_ | refine CC.skip ?_ | refine CC.ret ?_ | refine CC.exit ?_ | refine CC.condTA ?_ | refine CC.condFA ?_ | refine CC.condDTA ?_ | refine CC.condDFA ?_ | refine CX.storeA ?_ | refine CX.skipA ?_)
  refine CC.loop (X := Nat × Nat) (fun s => [(14, .int .i64 (s.1 : Int)), (0, .int .u32 (s.2 : Int)), (5, .pointer (some ⟨t, 0, none⟩)), (13, .agg [.int .u8 ((c.toNat &&& 15 : Nat) : Int), .int .u8 ((c.toNat / 2 ^ 4 : Nat) : Int)].toArray)])
    (fun s => [bk t 214 fourC, exact x]) (fun s => s = (0, r) ∨ s = (1, nibM r (c.toNat &&& 15)) ∨ s = (2, intoM r c)) (fun s => 2 - s.1) (0, r) (.inl rfl) ⟨rfl, rfl, rfl, rfl, trivial⟩ (by repeat (first | exact Sel.nil _ | (apply Sel.cons; (· repeat (first | exact .head _ | apply Pick.tail | apply Upd.tail))))) ?_
  have key : ∀ (s h : Nat), s < 2 ^ 32 → h < 16 → nibM s h = s / 2 ^ 4 ^^^ four ((s % 2 ^ 8 &&& 15) ^^^ h) ∧ (s % 2 ^ 8 &&& 15) ^^^ h < 16 := fun s h hs hh => by
    have e : s % 2 ^ 8 &&& 15 = s &&& 15 := by rw [and15, and15]; omega
    rw [e]
    refine ⟨by rw [nibM, Nat.shiftRight_eq_div_pow], ?_⟩
    exact Nat.xor_lt_two_pow (n := 4) (by rw [and15]; omega) hh
  rintro ⟨i, s⟩ (e | e | e) <;> (obtain ⟨rfl, h6⟩ := Prod.mk.inj e; have h6 := h6.symm; subst h6)
  · have hh : c.toNat &&& 15 < 16 := by first | omega | (have := c.toNat_lt; omega)
    obtain ⟨e1, e2⟩ := key r (c.toNat &&& 15) (by first | exact hr | exact nib_lt hr h1) hh
    have e3 := four_lt _ e2
    have hs8 : r % 2 ^ 8 < 256 := Nat.mod_lt _ (by decide)
    have hs : r < 2 ^ 32 := by first | exact hr | exact nib_lt hr h1
    dsimp only
    repeat (first | refine CX.psA ?_ | refine CX.nil ?_ | refine CQ.thenN ?_ | refine CQ.thenR ?_ | refine CQ.thenX ?_ | refine CQ.blockN ?_ | refine CQ.blockR ?_ | refine CQ.blockX ?_ | refine CQ.blockYA ?_ | refine CC.seq ?_ | refine CC.block ?_ | refine CC.region ?_ | refine CC.skip ?_ | refine CC.ret ?_ | refine CC.exit ?_ | refine CC.condTA ?_ | refine CC.condFA ?_ | refine CC.condDTA ?_ | refine CC.condDFA ?_ | refine CX.storeA ?_ | refine CX.skipA ?_)
    refine CX.ps (PS.indexS (j := 0) rfl rfl rfl rfl (by decide) rfl) ?_
    repeat (first | refine CX.psA ?_ | refine CX.nil ?_ | refine CQ.thenN ?_ | refine CQ.thenR ?_ | refine CQ.thenX ?_ | refine CQ.blockN ?_ | refine CQ.blockR ?_ | refine CQ.blockX ?_ | refine CQ.blockYA ?_ | refine CC.seq ?_ | refine CC.block ?_ | refine CC.region ?_ | refine CC.skip ?_ | refine CC.ret ?_ | refine CC.exit ?_ | refine CC.condTA ?_ | refine CC.condFA ?_ | refine CC.condDTA ?_ | refine CC.condDFA ?_ | refine CX.storeA ?_ | refine CX.skipA ?_)
    refine CX.ps (PS.shrN r 4 (by decide) rfl rfl rfl) ?_
    repeat (first | refine CX.psA ?_ | refine CX.nil ?_ | refine CQ.thenN ?_ | refine CQ.thenR ?_ | refine CQ.thenX ?_ | refine CQ.blockN ?_ | refine CQ.blockR ?_ | refine CQ.blockX ?_ | refine CQ.blockYA ?_ | refine CC.seq ?_ | refine CC.block ?_ | refine CC.region ?_ | refine CC.skip ?_ | refine CC.ret ?_ | refine CC.exit ?_ | refine CC.condTA ?_ | refine CC.condFA ?_ | refine CC.condDTA ?_ | refine CC.condDFA ?_ | refine CX.storeA ?_ | refine CX.skipA ?_)
    refine CX.ps (PS.convM r (r % 2 ^ 8) rfl rfl rfl rfl) ?_
    refine CX.ps (PS.andN (k := .u8) (r % 2 ^ 8) 15 rfl hs8 (by decide) rfl rfl rfl) ?_
    repeat (first | refine CX.psA ?_ | refine CX.nil ?_ | refine CQ.thenN ?_ | refine CQ.thenR ?_ | refine CQ.thenX ?_ | refine CQ.blockN ?_ | refine CQ.blockR ?_ | refine CQ.blockX ?_ | refine CQ.blockYA ?_ | refine CC.seq ?_ | refine CC.block ?_ | refine CC.region ?_ | refine CC.skip ?_ | refine CC.ret ?_ | refine CC.exit ?_ | refine CC.condTA ?_ | refine CC.condFA ?_ | refine CC.condDTA ?_ | refine CC.condDFA ?_ | refine CX.storeA ?_ | refine CX.skipA ?_)
    refine CX.ps (PS.xorN (k := .u8) (r % 2 ^ 8 &&& 15) (c.toNat &&& 15) rfl (Nat.lt_of_le_of_lt Nat.and_le_right (by decide)) (Nat.lt_trans hh (by decide)) rfl rfl rfl) ?_
    refine CX.ps (PS.indexArr (j := r % 2 ^ 8 &&& 15 ^^^ (c.toNat &&& 15)) rfl rfl rfl rfl e2) ?_
    refine CX.loadA _ (CellAt.pick (by repeat (first | exact .head _ | apply Pick.tail | apply Upd.tail)) (fourC_at _ e2)) ?_
    refine CX.ps (PS.xorN (k := .u32) (r / 2 ^ 4) (four (r % 2 ^ 8 &&& 15 ^^^ (c.toNat &&& 15))) rfl (Nat.lt_of_le_of_lt (Nat.div_le_self _ _) hs) e3 rfl rfl rfl) ?_
    repeat (first | refine CX.psA ?_ | refine CX.nil ?_ | refine CQ.thenN ?_ | refine CQ.thenR ?_ | refine CQ.thenX ?_ | refine CQ.blockN ?_ | refine CQ.blockR ?_ | refine CQ.blockX ?_ | refine CQ.blockYA ?_ | refine CC.seq ?_ | refine CC.block ?_ | refine CC.region ?_ | refine CC.skip ?_ | refine CC.ret ?_ | refine CC.exit ?_ | refine CC.condTA ?_ | refine CC.condFA ?_ | refine CC.condDTA ?_ | refine CC.condDFA ?_ | refine CX.storeA ?_ | refine CX.skipA ?_)
    rw [← e1]
    exact CQ.round (x := (0, r)) (0 + 1, nibM r (c.toNat &&& 15)) (.inr (.inl rfl)) (by dsimp only; omega) ⟨rfl, by rfl, rfl, rfl, trivial⟩ (by repeat (first | exact Sel.nil _ | (apply Sel.cons; (· repeat (first | exact .head _ | apply Pick.tail | apply Upd.tail)))))
  · have hh : c.toNat / 2 ^ 4 < 16 := by first | omega | (have := c.toNat_lt; omega)
    obtain ⟨e1, e2⟩ := key (nibM r (c.toNat &&& 15)) (c.toNat / 2 ^ 4) (by first | exact hr | exact nib_lt hr h1) hh
    have e3 := four_lt _ e2
    have hs8 : nibM r (c.toNat &&& 15) % 2 ^ 8 < 256 := Nat.mod_lt _ (by decide)
    have hs : nibM r (c.toNat &&& 15) < 2 ^ 32 := by first | exact hr | exact nib_lt hr h1
    dsimp only
    repeat (first | refine CX.psA ?_ | refine CX.nil ?_ | refine CQ.thenN ?_ | refine CQ.thenR ?_ | refine CQ.thenX ?_ | refine CQ.blockN ?_ | refine CQ.blockR ?_ | refine CQ.blockX ?_ | refine CQ.blockYA ?_ | refine CC.seq ?_ | refine CC.block ?_ | refine CC.region ?_ | refine CC.skip ?_ | refine CC.ret ?_ | refine CC.exit ?_ | refine CC.condTA ?_ | refine CC.condFA ?_ | refine CC.condDTA ?_ | refine CC.condDFA ?_ | refine CX.storeA ?_ | refine CX.skipA ?_)
    refine CX.ps (PS.indexS (j := 1) rfl rfl rfl rfl (by decide) rfl) ?_
    repeat (first | refine CX.psA ?_ | refine CX.nil ?_ | refine CQ.thenN ?_ | refine CQ.thenR ?_ | refine CQ.thenX ?_ | refine CQ.blockN ?_ | refine CQ.blockR ?_ | refine CQ.blockX ?_ | refine CQ.blockYA ?_ | refine CC.seq ?_ | refine CC.block ?_ | refine CC.region ?_ | refine CC.skip ?_ | refine CC.ret ?_ | refine CC.exit ?_ | refine CC.condTA ?_ | refine CC.condFA ?_ | refine CC.condDTA ?_ | refine CC.condDFA ?_ | refine CX.storeA ?_ | refine CX.skipA ?_)
    refine CX.ps (PS.shrN (nibM r (c.toNat &&& 15)) 4 (by decide) rfl rfl rfl) ?_
    repeat (first | refine CX.psA ?_ | refine CX.nil ?_ | refine CQ.thenN ?_ | refine CQ.thenR ?_ | refine CQ.thenX ?_ | refine CQ.blockN ?_ | refine CQ.blockR ?_ | refine CQ.blockX ?_ | refine CQ.blockYA ?_ | refine CC.seq ?_ | refine CC.block ?_ | refine CC.region ?_ | refine CC.skip ?_ | refine CC.ret ?_ | refine CC.exit ?_ | refine CC.condTA ?_ | refine CC.condFA ?_ | refine CC.condDTA ?_ | refine CC.condDFA ?_ | refine CX.storeA ?_ | refine CX.skipA ?_)
    refine CX.ps (PS.convM (nibM r (c.toNat &&& 15)) (nibM r (c.toNat &&& 15) % 2 ^ 8) rfl rfl rfl rfl) ?_
    refine CX.ps (PS.andN (k := .u8) (nibM r (c.toNat &&& 15) % 2 ^ 8) 15 rfl hs8 (by decide) rfl rfl rfl) ?_
    repeat (first | refine CX.psA ?_ | refine CX.nil ?_ | refine CQ.thenN ?_ | refine CQ.thenR ?_ | refine CQ.thenX ?_ | refine CQ.blockN ?_ | refine CQ.blockR ?_ | refine CQ.blockX ?_ | refine CQ.blockYA ?_ | refine CC.seq ?_ | refine CC.block ?_ | refine CC.region ?_ | refine CC.skip ?_ | refine CC.ret ?_ | refine CC.exit ?_ | refine CC.condTA ?_ | refine CC.condFA ?_ | refine CC.condDTA ?_ | refine CC.condDFA ?_ | refine CX.storeA ?_ | refine CX.skipA ?_)
    refine CX.ps (PS.xorN (k := .u8) (nibM r (c.toNat &&& 15) % 2 ^ 8 &&& 15) (c.toNat / 2 ^ 4) rfl (Nat.lt_of_le_of_lt Nat.and_le_right (by decide)) (Nat.lt_trans hh (by decide)) rfl rfl rfl) ?_
    refine CX.ps (PS.indexArr (j := nibM r (c.toNat &&& 15) % 2 ^ 8 &&& 15 ^^^ (c.toNat / 2 ^ 4)) rfl rfl rfl rfl e2) ?_
    refine CX.loadA _ (CellAt.pick (by repeat (first | exact .head _ | apply Pick.tail | apply Upd.tail)) (fourC_at _ e2)) ?_
    refine CX.ps (PS.xorN (k := .u32) (nibM r (c.toNat &&& 15) / 2 ^ 4) (four (nibM r (c.toNat &&& 15) % 2 ^ 8 &&& 15 ^^^ (c.toNat / 2 ^ 4))) rfl (Nat.lt_of_le_of_lt (Nat.div_le_self _ _) hs) e3 rfl rfl rfl) ?_
    repeat (first | refine CX.psA ?_ | refine CX.nil ?_ | refine CQ.thenN ?_ | refine CQ.thenR ?_ | refine CQ.thenX ?_ | refine CQ.blockN ?_ | refine CQ.blockR ?_ | refine CQ.blockX ?_ | refine CQ.blockYA ?_ | refine CC.seq ?_ | refine CC.block ?_ | refine CC.region ?_ | refine CC.skip ?_ | refine CC.ret ?_ | refine CC.exit ?_ | refine CC.condTA ?_ | refine CC.condFA ?_ | refine CC.condDTA ?_ | refine CC.condDFA ?_ | refine CX.storeA ?_ | refine CX.skipA ?_)
    rw [← e1]
    exact CQ.round (x := (1, nibM r (c.toNat &&& 15))) (1 + 1, nibM (nibM r (c.toNat &&& 15)) (c.toNat / 2 ^ 4)) (.inr (.inr (by rw [into_nib, Nat.shiftRight_eq_div_pow]))) (by dsimp only; omega) ⟨rfl, by rfl, rfl, rfl, trivial⟩ (by repeat (first | exact Sel.nil _ | (apply Sel.cons; (· repeat (first | exact .head _ | apply Pick.tail | apply Upd.tail)))))
  · dsimp only
    repeat (first | refine CX.psA ?_ | refine CX.nil ?_ | refine CQ.thenN ?_ | refine CQ.thenR ?_ | refine CQ.thenX ?_ | refine CQ.blockN ?_ | refine CQ.blockR ?_ | refine CQ.blockX ?_ | refine CQ.blockYA ?_ | refine CC.seq ?_ | refine CC.block ?_ | refine CC.region ?_ | refine CC.skip ?_ | refine CC.ret ?_ | refine CC.exit ?_ | refine CC.condTA ?_ | refine CC.condFA ?_ | refine CC.condDTA ?_ | refine CC.condDFA ?_ | refine CX.storeA ?_ | refine CX.skipA ?_)
    ((apply CQ.end1; (· rfl); (· exact .tmp rfl)); (· exact ⟨rfl, rfl⟩); (· repeat (first | exact Sel.nil _ | (apply Sel.cons; (· repeat (first | exact .head _ | apply Pick.tail | apply Upd.tail))))))
theorem more_c (s : Nat) (hs : s < 2 ^ 32) (B : Blk) (hB : B.length ≤ 9223372036854775807) (a : Option Addr) (cap : Nat) : Ctr Try.prog 167 [.int .u32 (s : Int), .slice a B.length cap] [] (fun x => rdx a B.length (cb B) x)
    (fun v M => v = .int .u32 ((restM (s ^^^ 4294967295) B ^^^ 4294967295 : Nat) : Int) ∧ M = []) := by
  have hs' : s ^^^ 4294967295 < 2 ^ 32 := Nat.xor_lt_two_pow hs (by decide)
  refine Ctr.intro Try.func167 rfl Try.ntmps167 rfl fun x w hp => ?_
  repeat (first | refine CX.psA ?_ | refine CX.nil ?_ | refine CQ.thenN ?_ | refine CQ.thenR ?_ | refine CQ.thenX ?_ | refine CQ.blockN ?_ | refine CQ.blockR ?_ | refine CQ.blockX ?_ | refine CQ.blockYA ?_ | refine CC.seq ?_ | refine CC.block ?_ | refine CC.region ?_ | refine CC.skip ?_ | refine CC.ret ?_ | refine CC.exit ?_ | refine CC.condTA ?_ | refine CC.condFA ?_ | refine CC.condDTA ?_ | refine CC.condDFA ?_ | refine CX.storeA ?_ | refine CX.skipA ?_)
  refine CX.ps (PS.xorN (k := .u32) s 4294967295 rfl hs (by decide) rfl rfl rfl) ?_
  repeat (first | refine CX.psA ?_ | refine CX.nil ?_ | refine CQ.thenN ?_ | refine CQ.thenR ?_ | refine CQ.thenX ?_ | refine CQ.blockN ?_ | refine CQ.blockR ?_ | refine CQ.blockX ?_ | refine CQ.blockYA ?_ | refine CC.seq ?_ | refine CC.block ?_ | refine CC.region ?_ | refine CC.skip ?_ | refine CC.ret ?_ | refine CC.exit ?_ | refine CC.condTA ?_ | refine CC.condFA ?_ | refine CC.condDTA ?_ | refine CC.condDFA ?_ | refine CX.storeA ?_ | refine CX.skipA ?_)
  refine CC.loop (X := Nat) (fun i => [(11, .int .i64 (i : Int)), (5, .int .u32 ((restM (s ^^^ 4294967295) (B.take i) : Nat) : Int)), (10, .int .i64 (B.length : Int)), (1, .slice a B.length cap)])
    (fun i => [exact x]) (fun i => i ≤ B.length) (fun i => B.length - i) 0 (Nat.zero_le _) ⟨rfl, rfl, rfl, rfl, trivial⟩ (by repeat (first | exact Sel.nil _ | (apply Sel.cons; (· repeat (first | exact .head _ | apply Pick.tail | apply Upd.tail))))) ?_
  intro i hi
  by_cases h1 : i < B.length
  · obtain ⟨g, off, rfl⟩ := rdx_some hp (by omega)
    repeat (first | refine CX.psA ?_ | refine CX.nil ?_ | refine CQ.thenN ?_ | refine CQ.thenR ?_ | refine CQ.thenX ?_ | refine CQ.blockN ?_ | refine CQ.blockR ?_ | refine CQ.blockX ?_ | refine CQ.blockYA ?_ | refine CC.seq ?_ | refine CC.block ?_ | refine CC.region ?_ | refine CC.skip ?_ | refine CC.ret ?_ | refine CC.exit ?_ | refine CC.condTA ?_ | refine CC.condFA ?_ | refine CC.condDTA ?_ | refine CC.condDFA ?_ | refine CX.storeA ?_ | refine CX.skipA ?_)
    (refine CX.indexA (i) ?_ ?_; (· exact h1))
    (refine CX.loadA _ (CellAt.rd (j := i) (by repeat (first | exact .head _ | apply Pick.tail | apply Upd.tail)) hp rfl h1) ?_)
    repeat (first | refine CX.psA ?_ | refine CX.nil ?_ | refine CQ.thenN ?_ | refine CQ.thenR ?_ | refine CQ.thenX ?_ | refine CQ.blockN ?_ | refine CQ.blockR ?_ | refine CQ.blockX ?_ | refine CQ.blockYA ?_ | refine CC.seq ?_ | refine CC.block ?_ | refine CC.region ?_ | refine CC.skip ?_ | refine CC.ret ?_ | refine CC.exit ?_ | refine CC.condTA ?_ | refine CC.condFA ?_ | refine CC.condDTA ?_ | refine CC.condDFA ?_ | refine CX.storeA ?_ | refine CX.skipA ?_)
    refine CX.callA (into_c (restM (s ^^^ 4294967295) (B.take i)) (rest_lt hs' _) B[i]) ?_
    rintro _ _ ⟨rfl, rfl⟩
    repeat (first | refine CX.psA ?_ | refine CX.nil ?_ | refine CQ.thenN ?_ | refine CQ.thenR ?_ | refine CQ.thenX ?_ | refine CQ.blockN ?_ | refine CQ.blockR ?_ | refine CQ.blockX ?_ | refine CQ.blockYA ?_ | refine CC.seq ?_ | refine CC.block ?_ | refine CC.region ?_ | refine CC.skip ?_ | refine CC.ret ?_ | refine CC.exit ?_ | refine CC.condTA ?_ | refine CC.condFA ?_ | refine CC.condDTA ?_ | refine CC.condDFA ?_ | refine CX.storeA ?_ | refine CX.skipA ?_)
    have e : restM (s ^^^ 4294967295) (B.take (i + 1)) = intoM (restM (s ^^^ 4294967295) (B.take i)) B[i] := by rw [List.take_succ_eq_append_getElem h1, rest_append]; rfl
    exact CQ.round (i + 1) (by omega) (by omega) ⟨eqI (by omega), eqI (by rw [e]), rfl, rfl, trivial⟩ (by repeat (first | exact Sel.nil _ | (apply Sel.cons; (· repeat (first | exact .head _ | apply Pick.tail | apply Upd.tail)))))
  · obtain rfl : i = B.length := by omega
    rw [List.take_length]
    repeat (first | refine CX.psA ?_ | refine CX.nil ?_ | refine CQ.thenN ?_ | refine CQ.thenR ?_ | refine CQ.thenX ?_ | refine CQ.blockN ?_ | refine CQ.blockR ?_ | refine CQ.blockX ?_ | refine CQ.blockYA ?_ | refine CC.seq ?_ | refine CC.block ?_ | refine CC.region ?_ | refine CC.skip ?_ | refine CC.ret ?_ | refine CC.exit ?_ | refine CC.condTA ?_ | refine CC.condFA ?_ | refine CC.condDTA ?_ | refine CC.condDFA ?_ | refine CX.storeA ?_ | refine CX.skipA ?_)
    refine CX.ps (PS.xorN (k := .u32) (restM (s ^^^ 4294967295) B) 4294967295 rfl (rest_lt hs' _) (by decide) rfl rfl rfl) ?_
    repeat (first | refine CX.psA ?_ | refine CX.nil ?_ | refine CQ.thenN ?_ | refine CQ.thenR ?_ | refine CQ.thenX ?_ | refine CQ.blockN ?_ | refine CQ.blockR ?_ | refine CQ.blockX ?_ | refine CQ.blockYA ?_ | refine CC.seq ?_ | refine CC.block ?_ | refine CC.region ?_ | refine CC.skip ?_ | refine CC.ret ?_ | refine CC.exit ?_ | refine CC.condTA ?_ | refine CC.condFA ?_ | refine CC.condDTA ?_ | refine CC.condDFA ?_ | refine CX.storeA ?_ | refine CX.skipA ?_)
    (apply CQ.end1; (· rfl); (· exact .tmp rfl))
    · exact ⟨rfl, rfl⟩
    · repeat (first | exact Sel.nil _ | (apply Sel.cons; (· repeat (first | exact .head _ | apply Pick.tail | apply Upd.tail))))
theorem of_c (B : Blk) (hB : B.length ≤ 9223372036854775807) (a : Option Addr) (cap : Nat) : Ctr Try.prog 144 [.slice a B.length cap] [] (fun x => rdx a B.length (cb B) x) (fun v M => v = .int .u32 ((crcM B : Nat) : Int) ∧ M = []) := by
  refine Ctr.intro Try.func144 rfl Try.ntmps144 rfl fun x w hp => ?_
  repeat (first | refine CX.psA ?_ | refine CX.nil ?_ | refine CQ.thenN ?_ | refine CQ.thenR ?_ | refine CQ.thenX ?_ | refine CQ.blockN ?_ | refine CQ.blockR ?_ | refine CQ.blockX ?_ | refine CQ.blockYA ?_ | refine CC.seq ?_ | refine CC.block ?_ | refine CC.region ?_ | refine CC.skip ?_ | refine CC.ret ?_ | refine CC.exit ?_ | refine CC.condTA ?_ | refine CC.condFA ?_ | refine CC.condDTA ?_ | refine CC.condDFA ?_ | refine CX.storeA ?_ | refine CX.skipA ?_)
  refine CX.callA (more_c 0 (by decide) B hB a cap) ?_ (hpre := by exact rdx_ex (by repeat (first | exact .head _ | apply Pick.tail | apply Upd.tail)) hp)
  rintro _ _ ⟨rfl, rfl⟩
  repeat (first | refine CX.psA ?_ | refine CX.nil ?_ | refine CQ.thenN ?_ | refine CQ.thenR ?_ | refine CQ.thenX ?_ | refine CQ.blockN ?_ | refine CQ.blockR ?_ | refine CQ.blockX ?_ | refine CQ.blockYA ?_ | refine CC.seq ?_ | refine CC.block ?_ | refine CC.region ?_ | refine CC.skip ?_ | refine CC.ret ?_ | refine CC.exit ?_ | refine CC.condTA ?_ | refine CC.condFA ?_ | refine CC.condDTA ?_ | refine CC.condDFA ?_ | refine CX.storeA ?_ | refine CX.skipA ?_)
  ((apply CQ.end1; (· rfl); (· exact .tmp rfl)); (· exact ⟨rfl, rfl⟩); (· repeat (first | exact Sel.nil _ | (apply Sel.cons; (· repeat (first | exact .head _ | apply Pick.tail | apply Upd.tail))))))
end Go.Proofs.Ytlckhaodecdbbaa
