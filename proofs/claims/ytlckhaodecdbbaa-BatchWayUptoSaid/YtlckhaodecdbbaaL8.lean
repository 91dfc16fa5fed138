/- The statements' own doings of layer 8 (lives), in the program. -/
import Derived.Test.YtlckhaodecdbbaaAp
set_option linter.unusedVariables false
set_option linter.unusedSimpArgs false
namespace Go.Cx
theorem bk_rdx {b t o len : Nat} {cs vs : List Value} {L M : List Assn} (p : Pick (bk b t cs) L M) (hc : (cs.drop o).take vs.length = vs) : ∀ y, Sep L y → rdx (some ⟨b, o, none⟩) len vs y := fun y hy => by
  obtain ⟨cs', t', fr, e, h⟩ := CellsAt.pick p hc y hy
  exact .inr ⟨b, o, _, _, _, rfl, e, h⟩
theorem slb_bk {b t : Nat} {B : Blk} {L M : List Assn} (p : Pick (bk b t (cb B)) L M) (h : B.length ≤ 1000000) : ∀ y, Sep L y → SlB.ok y ⟨some ⟨b, 0, none⟩, B, B.length⟩ := fun y hy =>
  ⟨(fun h => by cases h), Nat.le_refl _, by show B.length ≤ maxLen; unfold maxLen; omega, bk_rdx p (by rw [List.drop_zero, List.take_length]) y hy⟩
theorem slb_nil (y : PH) : SlB.ok y ⟨none, [], 0⟩ := ⟨fun _ => ⟨rfl, rfl⟩, Nat.le_refl _, Nat.zero_le _, .inl rfl⟩
theorem ch_bk {b t : Nat} {l : List ChV} {L M : List Assn} (p : Pick (bk b t (rows ChV.cells l)) L M) (h : ∀ y, Sep L y → ∀ r ∈ l, r.s.ok y) : ∀ y, Sep L y → chAt (some ⟨b, 0, none⟩) l y := fun y hy =>
  ⟨bk_rdx p (by simp) y hy, h y hy⟩
theorem rw_bk {b t : Nat} {l : List RwV} {L M : List Assn} (p : Pick (bk b t (rows RwV.cells l)) L M) (h : ∀ y, Sep L y → ∀ r ∈ l, r.s.ok y) : ∀ y, Sep L y → rwAt (some ⟨b, 0, none⟩) l y := fun y hy =>
  ⟨bk_rdx p (by simp) y hy, h y hy⟩
theorem okC1 {y : PH} {r : ChV} (h : r.s.ok y) : ∀ q ∈ [r], q.s.ok y := fun q hq => by rw [List.mem_singleton.1 hq]; exact h
theorem okR1 {y : PH} {r : RwV} (h : r.s.ok y) : ∀ q ∈ [r], q.s.ok y := fun q hq => by rw [List.mem_singleton.1 hq]; exact h
theorem okC2 {y : PH} {r s : ChV} (h : r.s.ok y) (k : s.s.ok y) : ∀ q ∈ [r, s], q.s.ok y := fun q hq => by
  simp only [List.mem_cons, List.not_mem_nil, or_false] at hq
  rcases hq with rfl | rfl
  · exact h
  · exact k
def c1M : List ChM := [⟨[97], [7], false⟩]
def c2M : List ChM := [⟨[97], [], true⟩, ⟨[98], [8], false⟩]
theorem may1 : MayC c1M := by decide
theorem may2 : MayC c2M := by decide
theorem may3 : ¬ MayC [⟨[98], [], false⟩, ⟨[97], [], false⟩] := by decide
theorem mayr1 : MayR [([97], [7])] := by decide
theorem put1 : putB c1M = [1, 0, 0, 0, 1, 0, 0, 0, 97, 0, 1, 0, 0, 0, 7] := by decide
theorem got1 : getB (putB c1M) = (c1M, 0) := get_putB may1 (by decide)
theorem app1 : applyM [([97], [7])] c2M = [([98], [8])] := by
  have h : klt [97] [97] = false := by decide
  simp [c2M, applyM, h]
end Go.Cx
namespace Go.Proofs.Ytlckhaodecdbbaa
open Go.Cx
attribute [local irreducible] Go.Cx.CX Go.Cx.CC Go.Cx.CQ Go.Cx.PS Go.Cx.Ctr Go.Cx.CH
set_option maxRecDepth 10000
theorem lives8_c : Ctr Try.prog 65 [] [] (fun _ => True) (fun v M => v = .bool true ∧ M = []) := by
  refine Ctr.intro Try.func65 rfl Try.ntmps65 rfl fun x w hp => ?_
  repeat (first | refine CX.psA ?_ | refine CX.nil ?_ | refine CQ.thenN ?_ | refine CQ.thenR ?_ | refine CQ.thenX ?_ | refine CQ.blockN ?_ | refine CQ.blockR ?_ | refine CQ.blockX ?_ | refine CQ.blockYA ?_ | refine CC.seq ?_ | refine CC.block ?_ | refine CC.region ?_ | refine CC.skip ?_ | refine CC.ret ?_ | refine CC.exit ?_ | refine CC.condTA ?_ | refine CC.condFA ?_ | refine CC.condDTA ?_ | refine CC.condDFA ?_ | refine CX.storeA ?_ | refine CX.skipA ?_)
  refine CX.buildSl (parts := [(0, _)]) (vs := [(0, .int .u8 7)]) (out := cb [7]) rfl rfl (by decide) (by simp [fillL, Value.cells, setL]; rfl) fun q1 => ?_
  refine CX.ps (PS.build (vs := [(0, sv [97]), (1, .slice (some ⟨q1, 0, none⟩) 1 1)]) (out := [sv [97], .slice (some ⟨q1, 0, none⟩) 1 1, .bool false]) rfl rfl rfl) ?_
  refine CX.buildSl (parts := [(0, _)]) (vs := [(0, .agg #[sv [97], .slice (some ⟨q1, 0, none⟩) 1 1, .bool false])]) (out := rows ChV.cells [⟨[97], ⟨some ⟨q1, 0, none⟩, [7], 1⟩, false⟩]) rfl rfl (by decide) (by simp [fillL, Value.cells, setL]; rfl) fun q2 => ?_
  repeat (first | refine CX.psA ?_ | refine CX.nil ?_ | refine CQ.thenN ?_ | refine CQ.thenR ?_ | refine CQ.thenX ?_ | refine CQ.blockN ?_ | refine CQ.blockR ?_ | refine CQ.blockX ?_ | refine CQ.blockYA ?_ | refine CC.seq ?_ | refine CC.block ?_ | refine CC.region ?_ | refine CC.skip ?_ | refine CC.ret ?_ | refine CC.exit ?_ | refine CC.condTA ?_ | refine CC.condFA ?_ | refine CC.condDTA ?_ | refine CC.condDFA ?_ | refine CX.storeA ?_ | refine CX.skipA ?_)
  refine CX.callA (bput_c [⟨[97], ⟨some ⟨q1, 0, none⟩, [7], 1⟩, false⟩] (by show 1 ≤ 1073741824; decide) (fun _ => by show (putB c1M).length ≤ 70368744177664; decide) (some ⟨q2, 0, none⟩) 1) ?_ (hpre := by exact ch_bk (by repeat (first | exact .head _ | apply Pick.tail | apply Upd.tail)) (fun y hy => okC1 (slb_bk (b := q1) (t := 5) (B := [7]) (by repeat (first | exact .head _ | apply Pick.tail | apply Upd.tail)) (by decide) y hy)))
  rintro _ _ ⟨hput, -⟩
  obtain ⟨q3, k3, rfl, rfl⟩ := hput may1
  rw [show putB (List.map ChV.m [⟨[97], ⟨some ⟨q1, 0, none⟩, [7], 1⟩, false⟩]) = putB c1M from rfl]
  have hl1 : (putB c1M).length = 15 := by decide
  refine CX.fact (own_none (e := 5) (sz := 1) (by repeat (first | exact .head _ | apply Pick.tail | apply Upd.tail))) ?_
  rintro ⟨-, hk3, -⟩
  repeat (first | refine CX.psA ?_ | refine CX.nil ?_ | refine CQ.thenN ?_ | refine CQ.thenR ?_ | refine CQ.thenX ?_ | refine CQ.blockN ?_ | refine CQ.blockR ?_ | refine CQ.blockX ?_ | refine CQ.blockYA ?_ | refine CC.seq ?_ | refine CC.block ?_ | refine CC.region ?_ | refine CC.skip ?_ | refine CC.ret ?_ | refine CC.exit ?_ | refine CC.condTA ?_ | refine CC.condFA ?_ | refine CC.condDTA ?_ | refine CC.condDFA ?_ | refine CX.storeA ?_ | refine CX.skipA ?_)
  refine CX.callA (bget_c (putB c1M) (by decide) (some ⟨q3, 0, none⟩) k3 hk3) ?_ (hpre := by exact rdx_own (by repeat (first | exact .head _ | apply Pick.tail | apply Upd.tail)) rfl)
  rintro _ _ ⟨a4, k4, l4, hm4, rfl, rfl, hn4, hk4, hl4⟩
  rw [got1] at hm4
  rw [got1]
  dsimp only at hm4 ⊢
  repeat (first | refine CX.psA ?_ | refine CX.nil ?_ | refine CQ.thenN ?_ | refine CQ.thenR ?_ | refine CQ.thenX ?_ | refine CQ.blockN ?_ | refine CQ.blockR ?_ | refine CQ.blockX ?_ | refine CQ.blockYA ?_ | refine CC.seq ?_ | refine CC.block ?_ | refine CC.region ?_ | refine CC.skip ?_ | refine CC.ret ?_ | refine CC.exit ?_ | refine CC.condTA ?_ | refine CC.condFA ?_ | refine CC.condDTA ?_ | refine CC.condDFA ?_ | refine CX.storeA ?_ | refine CX.skipA ?_)
  refine CX.buildSl (parts := [(0, _)]) (vs := [(0, .int .u8 7)]) (out := cb [7]) rfl rfl (by decide) (by simp [fillL, Value.cells, setL]; rfl) fun q5 => ?_
  refine CX.ps (PS.build (vs := [(0, sv [97]), (1, .slice (some ⟨q5, 0, none⟩) 1 1)]) (out := [sv [97], .slice (some ⟨q5, 0, none⟩) 1 1]) rfl rfl rfl) ?_
  refine CX.buildSl (parts := [(0, _)]) (vs := [(0, .agg #[sv [97], .slice (some ⟨q5, 0, none⟩) 1 1])]) (out := rows RwV.cells [⟨[97], ⟨some ⟨q5, 0, none⟩, [7], 1⟩⟩]) rfl rfl (by decide) (by simp [fillL, Value.cells, setL]; rfl) fun q6 => ?_
  refine CX.ps (PS.build (vs := [(0, sv [97]), (2, .bool true)]) (out := [sv [97], .slice none 0 0, .bool true]) rfl rfl rfl) ?_
  refine CX.buildSl (parts := [(0, _)]) (vs := [(0, .int .u8 8)]) (out := cb [8]) rfl rfl (by decide) (by simp [fillL, Value.cells, setL]; rfl) fun q7 => ?_
  refine CX.ps (PS.build (vs := [(0, sv [98]), (1, .slice (some ⟨q7, 0, none⟩) 1 1)]) (out := [sv [98], .slice (some ⟨q7, 0, none⟩) 1 1, .bool false]) rfl rfl rfl) ?_
  refine CX.buildSl (parts := [(0, _), (1, _)]) (vs := [(0, .agg #[sv [97], .slice none 0 0, .bool true]), (1, .agg #[sv [98], .slice (some ⟨q7, 0, none⟩) 1 1, .bool false])]) (out := rows ChV.cells [⟨[97], ⟨none, [], 0⟩, true⟩, ⟨[98], ⟨some ⟨q7, 0, none⟩, [8], 1⟩, false⟩]) rfl rfl (by decide) (by simp [fillL, Value.cells, setL]; rfl) fun q8 => ?_
  refine CX.callA (apply_c [⟨[97], ⟨some ⟨q5, 0, none⟩, [7], 1⟩⟩] [⟨[97], ⟨none, [], 0⟩, true⟩, ⟨[98], ⟨some ⟨q7, 0, none⟩, [8], 1⟩, false⟩] (by show 1 ≤ 1073741824; decide) (by show 2 ≤ 1073741824; decide) (some ⟨q6, 0, none⟩) (some ⟨q8, 0, none⟩) 1 2 (Nat.le_refl _) (Nat.le_refl _)) ?_ (hpre := by exact fun z hz => ⟨rw_bk (b := q6) (t := 105) (by repeat (first | exact .head _ | apply Pick.tail | apply Upd.tail)) (fun y hy => okR1 (slb_bk (b := q5) (t := 5) (B := [7]) (by repeat (first | exact .head _ | apply Pick.tail | apply Upd.tail)) (by decide) y hy)) z hz, ch_bk (b := q8) (t := 156) (by repeat (first | exact .head _ | apply Pick.tail | apply Upd.tail)) (fun y hy => okC2 (slb_nil y) (slb_bk (b := q7) (t := 5) (B := [8]) (by repeat (first | exact .head _ | apply Pick.tail | apply Upd.tail)) (by decide) y hy)) z hz⟩)
  rintro _ _ ⟨-, happ⟩
  obtain ⟨a9, k9, l9, hm9, rfl, rfl, hn9, hk9, hl9⟩ := happ ⟨mayr1, may2⟩
  rw [show applyM (List.map RwV.m [⟨[97], ⟨some ⟨q5, 0, none⟩, [7], 1⟩⟩]) (List.map ChV.m [⟨[97], ⟨none, [], 0⟩, true⟩, ⟨[98], ⟨some ⟨q7, 0, none⟩, [8], 1⟩, false⟩]) = [([98], [8])] from app1] at hm9
  repeat (first | refine CX.psA ?_ | refine CX.nil ?_ | refine CQ.thenN ?_ | refine CQ.thenR ?_ | refine CQ.thenX ?_ | refine CQ.blockN ?_ | refine CQ.blockR ?_ | refine CQ.blockX ?_ | refine CQ.blockYA ?_ | refine CC.seq ?_ | refine CC.block ?_ | refine CC.region ?_ | refine CC.skip ?_ | refine CC.ret ?_ | refine CC.exit ?_ | refine CC.condTA ?_ | refine CC.condFA ?_ | refine CC.condDTA ?_ | refine CC.condDFA ?_ | refine CX.storeA ?_ | refine CX.skipA ?_)
  refine CX.ps (PS.build (vs := [(0, sv [98])]) (out := [sv [98], .slice none 0 0, .bool false]) rfl rfl rfl) ?_
  refine CX.ps (PS.build (vs := [(0, sv [97])]) (out := [sv [97], .slice none 0 0, .bool false]) rfl rfl rfl) ?_
  refine CX.buildSl (parts := [(0, _), (1, _)]) (vs := [(0, .agg #[sv [98], .slice none 0 0, .bool false]), (1, .agg #[sv [97], .slice none 0 0, .bool false])]) (out := rows ChV.cells [⟨[98], ⟨none, [], 0⟩, false⟩, ⟨[97], ⟨none, [], 0⟩, false⟩]) rfl rfl (by decide) (by simp [fillL, Value.cells, setL]; rfl) fun q10 => ?_
  refine CX.callA (bput_c [⟨[98], ⟨none, [], 0⟩, false⟩, ⟨[97], ⟨none, [], 0⟩, false⟩] (by show 2 ≤ 1073741824; decide) (fun h => absurd h may3) (some ⟨q10, 0, none⟩) 2) ?_ (hpre := by exact ch_bk (b := q10) (t := 156) (by repeat (first | exact .head _ | apply Pick.tail | apply Upd.tail)) (fun y hy => okC2 (slb_nil y) (slb_nil y)))
  rintro _ _ ⟨-, hbad⟩
  obtain ⟨rfl, rfl⟩ := hbad may3
  repeat (first | refine CX.psA ?_ | refine CX.nil ?_ | refine CQ.thenN ?_ | refine CQ.thenR ?_ | refine CQ.thenX ?_ | refine CQ.blockN ?_ | refine CQ.blockR ?_ | refine CQ.blockX ?_ | refine CQ.blockYA ?_ | refine CC.seq ?_ | refine CC.block ?_ | refine CC.region ?_ | refine CC.skip ?_ | refine CC.ret ?_ | refine CC.exit ?_ | refine CC.condTA ?_ | refine CC.condFA ?_ | refine CC.condDTA ?_ | refine CC.condDFA ?_ | refine CX.storeA ?_ | refine CX.skipA ?_)
  refine CX.buildSl (parts := [(0, _), (1, _), (2, _), (3, _), (4, _), (5, _), (6, _), (7, _), (8, _), (9, _), (10, _), (11, _), (12, _), (13, _), (14, _)]) (vs := [(0, .int .u8 1), (1, .int .u8 0), (2, .int .u8 0), (3, .int .u8 0), (4, .int .u8 1), (5, .int .u8 0), (6, .int .u8 0), (7, .int .u8 0), (8, .int .u8 97), (9, .int .u8 0), (10, .int .u8 1), (11, .int .u8 0), (12, .int .u8 0), (13, .int .u8 0), (14, .int .u8 7)]) (out := cb [1, 0, 0, 0, 1, 0, 0, 0, 97, 0, 1, 0, 0, 0, 7]) rfl rfl (by decide) (by kernel_rfl) fun q11 => ?_
  refine CX.callA (same_c (putB c1M) [1, 0, 0, 0, 1, 0, 0, 0, 97, 0, 1, 0, 0, 0, 7] (some ⟨q3, 0, none⟩) (some ⟨q11, 0, none⟩) k3 15) ?_ (hpre := by exact fun y hy => ⟨rdx_own (e := 5) (n := (putB c1M).length) (by repeat (first | exact .head _ | apply Pick.tail | apply Upd.tail)) rfl y hy, bk_rdx (b := q11) (t := 5) (cs := cb [1, 0, 0, 0, 1, 0, 0, 0, 97, 0, 1, 0, 0, 0, 7]) (by repeat (first | exact .head _ | apply Pick.tail | apply Upd.tail)) rfl y hy⟩)
  rw [decide_eq_true put1]
  rintro _ _ ⟨rfl, rfl⟩
  repeat (first | refine CX.psA ?_ | refine CX.nil ?_ | refine CQ.thenN ?_ | refine CQ.thenR ?_ | refine CQ.thenX ?_ | refine CQ.blockN ?_ | refine CQ.blockR ?_ | refine CQ.blockX ?_ | refine CQ.blockYA ?_ | refine CC.seq ?_ | refine CC.block ?_ | refine CC.region ?_ | refine CC.skip ?_ | refine CC.ret ?_ | refine CC.exit ?_ | refine CC.condTA ?_ | refine CC.condFA ?_ | refine CC.condDTA ?_ | refine CC.condDFA ?_ | refine CX.storeA ?_ | refine CX.skipA ?_)
  refine CX.callA (eqmC_c l4 [⟨[97], ⟨some ⟨q1, 0, none⟩, [7], 1⟩, false⟩] (by omega) a4 (some ⟨q2, 0, none⟩) k4 1 (by show 1 ≤ 9223372036854775806; decide)) ?_ (hpre := by exact fun y hy => ⟨ch_chs (by repeat (first | exact .head _ | apply Pick.tail | apply Upd.tail)) y hy, ch_bk (b := q2) (t := 156) (by repeat (first | exact .head _ | apply Pick.tail | apply Upd.tail)) (fun y hy => okC1 (slb_bk (b := q1) (t := 5) (B := [7]) (by repeat (first | exact .head _ | apply Pick.tail | apply Upd.tail)) (by decide) y hy)) y hy⟩)
  rw [decide_eq_true (show l4.map ChV.m = List.map ChV.m [⟨[97], ⟨some ⟨q1, 0, none⟩, [7], 1⟩, false⟩] from hm4)]
  rintro _ _ ⟨rfl, rfl⟩
  repeat (first | refine CX.psA ?_ | refine CX.nil ?_ | refine CQ.thenN ?_ | refine CQ.thenR ?_ | refine CQ.thenX ?_ | refine CQ.blockN ?_ | refine CQ.blockR ?_ | refine CQ.blockX ?_ | refine CQ.blockYA ?_ | refine CC.seq ?_ | refine CC.block ?_ | refine CC.region ?_ | refine CC.skip ?_ | refine CC.ret ?_ | refine CC.exit ?_ | refine CC.condTA ?_ | refine CC.condFA ?_ | refine CC.condDTA ?_ | refine CC.condDFA ?_ | refine CX.storeA ?_ | refine CX.skipA ?_)
  refine CX.buildSl (parts := [(0, _)]) (vs := [(0, .int .u8 8)]) (out := cb [8]) rfl rfl (by decide) (by simp [fillL, Value.cells, setL]; rfl) fun q12 => ?_
  refine CX.ps (PS.build (vs := [(0, sv [98]), (1, .slice (some ⟨q12, 0, none⟩) 1 1)]) (out := [sv [98], .slice (some ⟨q12, 0, none⟩) 1 1]) rfl rfl rfl) ?_
  refine CX.buildSl (parts := [(0, _)]) (vs := [(0, .agg #[sv [98], .slice (some ⟨q12, 0, none⟩) 1 1])]) (out := rows RwV.cells [⟨[98], ⟨some ⟨q12, 0, none⟩, [8], 1⟩⟩]) rfl rfl (by decide) (by simp [fillL, Value.cells, setL]; rfl) fun q13 => ?_
  refine CX.callA (eqmR_c l9 [⟨[98], ⟨some ⟨q12, 0, none⟩, [8], 1⟩⟩] (by have e : l9.length ≤ 3 := hl9; omega) a9 (some ⟨q13, 0, none⟩) k9 1 (by show 1 ≤ 9223372036854775806; decide)) ?_ (hpre := by exact fun y hy => ⟨rw_tab (by repeat (first | exact .head _ | apply Pick.tail | apply Upd.tail)) y hy, rw_bk (b := q13) (t := 105) (by repeat (first | exact .head _ | apply Pick.tail | apply Upd.tail)) (fun y hy => okR1 (slb_bk (b := q12) (t := 5) (B := [8]) (by repeat (first | exact .head _ | apply Pick.tail | apply Upd.tail)) (by decide) y hy)) y hy⟩)
  rw [decide_eq_true (show l9.map RwV.m = List.map RwV.m [⟨[98], ⟨some ⟨q12, 0, none⟩, [8], 1⟩⟩] from hm9)]
  rintro _ _ ⟨rfl, rfl⟩
  repeat (first | refine CX.psA ?_ | refine CX.nil ?_ | refine CQ.thenN ?_ | refine CQ.thenR ?_ | refine CQ.thenX ?_ | refine CQ.blockN ?_ | refine CQ.blockR ?_ | refine CQ.blockX ?_ | refine CQ.blockYA ?_ | refine CC.seq ?_ | refine CC.block ?_ | refine CC.region ?_ | refine CC.skip ?_ | refine CC.ret ?_ | refine CC.exit ?_ | refine CC.condTA ?_ | refine CC.condFA ?_ | refine CC.condDTA ?_ | refine CC.condDFA ?_ | refine CX.storeA ?_ | refine CX.skipA ?_)
  ((apply CQ.end1; (· rfl); (· exact .tmp rfl)); (· exact ⟨rfl, rfl⟩); (· repeat (first | exact Sel.nil _ | (apply Sel.cons; (· repeat (first | exact .head _ | apply Pick.tail | apply Upd.tail))))))
end Go.Proofs.Ytlckhaodecdbbaa
