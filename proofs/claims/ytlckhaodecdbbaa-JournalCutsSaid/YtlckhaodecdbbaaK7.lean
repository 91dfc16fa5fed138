/- Part K7: L8, L7, L7r, Rw8, Ly, L7c. -/
import Derived.Test.YtlckhaodecdbbaaK6
import Derived.Test.YtlckhaodecdbbaaK3
set_option linter.unusedVariables false
set_option linter.unusedSimpArgs false
/-! The statements' own doings of layer 8 (lives), in the program. -/
namespace Go.Cx
theorem bk_rdx {b t o len : Nat} {cs vs : List Value} {L M : List Assn} (p : Pick (bk b t cs) L M) (hc : (cs.drop o).take vs.length = vs) : ∀ y, Sep L y → rdx (some ⟨b, o, none⟩) len vs y := fun y hy => by
  obtain ⟨cs', t', fr, e, h⟩ := CellsAt.pick p hc y hy
  exact .inr ⟨b, o, _, _, _, rfl, e, h⟩
theorem slb_bk {b t : Nat} {B : Blk} {L M : List Assn} (p : Pick (bk b t (cb B)) L M) (h : B.length ≤ 1000000) : ∀ y, Sep L y → SlB.ok y ⟨some ⟨b, 0, none⟩, B, B.length⟩ := fun y hy =>
  ⟨(fun h => by cases h), Nat.le_refl _, by show B.length ≤ maxLen; unfold maxLen; omega, bk_rdx p (by rw [List.drop_zero, List.take_length]) y hy⟩
theorem slb_nil (y : PH) : SlB.ok y ⟨none, [], 0⟩ := ⟨fun _ => ⟨rfl, rfl⟩, Nat.le_refl _, Nat.zero_le _, .inl rfl⟩
theorem ch_bk {b t : Nat} {l : List ChV} {L M : List Assn} (p : Pick (bk b t (rows ChV.cells l)) L M) (h : ∀ y, Sep L y → ∀ r ∈ l, r.s.ok y) : ∀ y, Sep L y → chAt (some ⟨b, 0, none⟩) l y := fun y hy =>
  ⟨bk_rdx p (by simp) y hy, h y hy⟩
theorem rw_bk {b t : Nat} {l : List RwV} {L M : List Assn} (p : Pick (bk b t (rows RwV.cells l)) L M) (h : ∀ y, Sep L y → ∀ r ∈ l, r.s.ok y) : ∀ y, Sep L y → rwAt (some ⟨b, 0, none⟩) l y := fun y hy =>
  ⟨bk_rdx p (by simp) y hy, h y hy⟩
theorem okC1 {y : PH} {r : ChV} (h : r.s.ok y) : ∀ q ∈ [r], q.s.ok y := fun q hq => by rw [List.mem_singleton.1 hq]; exact h
theorem okR1 {y : PH} {r : RwV} (h : r.s.ok y) : ∀ q ∈ [r], q.s.ok y := fun q hq => by rw [List.mem_singleton.1 hq]; exact h
theorem okC2 {y : PH} {r s : ChV} (h : r.s.ok y) (k : s.s.ok y) : ∀ q ∈ [r, s], q.s.ok y := fun q hq => by
  simp only [List.mem_cons, List.not_mem_nil, or_false] at hq
  rcases hq with rfl | rfl
  · exact h
  · exact k
def c1M : List ChM := [⟨[97], [7], false⟩]
def c2M : List ChM := [⟨[97], [], true⟩, ⟨[98], [8], false⟩]
theorem may1 : MayC c1M := by decide
theorem may2 : MayC c2M := by decide
theorem may3 : ¬ MayC [⟨[98], [], false⟩, ⟨[97], [], false⟩] := by decide
theorem mayr1 : MayR [([97], [7])] := by decide
theorem put1 : putB c1M = [1, 0, 0, 0, 1, 0, 0, 0, 97, 0, 1, 0, 0, 0, 7] := by decide
theorem got1 : getB (putB c1M) = (c1M, 0) := get_putB may1 (by decide)
theorem app1 : applyM [([97], [7])] c2M = [([98], [8])] := by
  have h : klt [97] [97] = false := by decide
  simp [c2M, applyM, h]
end Go.Cx
namespace Go.Proofs.Ytlckhaodecdbbaa
open Go.Cx
attribute [local irreducible] Go.Cx.CX Go.Cx.CC Go.Cx.CQ Go.Cx.PS Go.Cx.Ctr Go.Cx.CH
set_option maxRecDepth 10000
theorem lives8_c : Ctr Try.prog 65 [] [] (fun _ => True) (fun v M => v = .bool true ∧ M = []) := by
  refine Ctr.intro Try.func65 rfl Try.ntmps65 rfl fun x w hp => ?_
  refine wk ?_
  refine CX.buildSl (parts := [(0, _)]) (vs := [(0, .int .u8 7)]) (out := cb [7]) rfl rfl (by decide) (by simp [fillL, Value.cells, setL]; rfl) fun q1 => ?_
  refine CX.ps (PS.build (vs := [(0, sv [97]), (1, .slice (some ⟨q1, 0, none⟩) 1 1)]) (out := [sv [97], .slice (some ⟨q1, 0, none⟩) 1 1, .bool false]) rfl rfl rfl) ?_
  refine CX.buildSl (parts := [(0, _)]) (vs := [(0, .agg #[sv [97], .slice (some ⟨q1, 0, none⟩) 1 1, .bool false])]) (out := rows ChV.cells [⟨[97], ⟨some ⟨q1, 0, none⟩, [7], 1⟩, false⟩]) rfl rfl (by decide) (by simp [fillL, Value.cells, setL]; rfl) fun q2 => ?_
  refine wk ?_
  refine CX.callA (bput_c [⟨[97], ⟨some ⟨q1, 0, none⟩, [7], 1⟩, false⟩] (by show 1 ≤ 1073741824; decide) (fun _ => by show (putB c1M).length ≤ 70368744177664; decide) (some ⟨q2, 0, none⟩) 1) ?_ (hpre := by exact ch_bk (by first | exact pickA | exact updA) (fun y hy => okC1 (slb_bk (b := q1) (t := 5) (B := [7]) (by first | exact pickA | exact updA) (by decide) y hy)))
  rintro _ _ ⟨hput, -⟩
  obtain ⟨q3, k3, rfl, rfl⟩ := hput may1
  rw [show putB (List.map ChV.m [⟨[97], ⟨some ⟨q1, 0, none⟩, [7], 1⟩, false⟩]) = putB c1M from rfl]
  have hl1 : (putB c1M).length = 15 := by decide
  refine CX.fact (own_none (e := 5) (sz := 1) (by first | exact pickA | exact updA)) ?_
  rintro ⟨-, hk3, -⟩
  refine wk ?_
  refine CX.callA (bget_c (putB c1M) (by decide) (some ⟨q3, 0, none⟩) k3 hk3) ?_ (hpre := by exact rdx_own (by first | exact pickA | exact updA) rfl)
  rintro _ _ ⟨a4, k4, l4, hm4, rfl, rfl, hn4, hk4, hl4⟩
  rw [got1] at hm4
  rw [got1]
  dsimp only at hm4 ⊢
  refine wk ?_
  refine CX.buildSl (parts := [(0, _)]) (vs := [(0, .int .u8 7)]) (out := cb [7]) rfl rfl (by decide) (by simp [fillL, Value.cells, setL]; rfl) fun q5 => ?_
  refine CX.ps (PS.build (vs := [(0, sv [97]), (1, .slice (some ⟨q5, 0, none⟩) 1 1)]) (out := [sv [97], .slice (some ⟨q5, 0, none⟩) 1 1]) rfl rfl rfl) ?_
  refine CX.buildSl (parts := [(0, _)]) (vs := [(0, .agg #[sv [97], .slice (some ⟨q5, 0, none⟩) 1 1])]) (out := rows RwV.cells [⟨[97], ⟨some ⟨q5, 0, none⟩, [7], 1⟩⟩]) rfl rfl (by decide) (by simp [fillL, Value.cells, setL]; rfl) fun q6 => ?_
  refine CX.ps (PS.build (vs := [(0, sv [97]), (2, .bool true)]) (out := [sv [97], .slice none 0 0, .bool true]) rfl rfl rfl) ?_
  refine CX.buildSl (parts := [(0, _)]) (vs := [(0, .int .u8 8)]) (out := cb [8]) rfl rfl (by decide) (by simp [fillL, Value.cells, setL]; rfl) fun q7 => ?_
  refine CX.ps (PS.build (vs := [(0, sv [98]), (1, .slice (some ⟨q7, 0, none⟩) 1 1)]) (out := [sv [98], .slice (some ⟨q7, 0, none⟩) 1 1, .bool false]) rfl rfl rfl) ?_
  refine CX.buildSl (parts := [(0, _), (1, _)]) (vs := [(0, .agg #[sv [97], .slice none 0 0, .bool true]), (1, .agg #[sv [98], .slice (some ⟨q7, 0, none⟩) 1 1, .bool false])]) (out := rows ChV.cells [⟨[97], ⟨none, [], 0⟩, true⟩, ⟨[98], ⟨some ⟨q7, 0, none⟩, [8], 1⟩, false⟩]) rfl rfl (by decide) (by simp [fillL, Value.cells, setL]; rfl) fun q8 => ?_
  refine CX.callA (apply_c [⟨[97], ⟨some ⟨q5, 0, none⟩, [7], 1⟩⟩] [⟨[97], ⟨none, [], 0⟩, true⟩, ⟨[98], ⟨some ⟨q7, 0, none⟩, [8], 1⟩, false⟩] (by show 1 ≤ 1073741824; decide) (by show 2 ≤ 1073741824; decide) (some ⟨q6, 0, none⟩) (some ⟨q8, 0, none⟩) 1 2 (Nat.le_refl _) (Nat.le_refl _)) ?_ (hpre := by exact fun z hz => ⟨rw_bk (b := q6) (t := 105) (by first | exact pickA | exact updA) (fun y hy => okR1 (slb_bk (b := q5) (t := 5) (B := [7]) (by first | exact pickA | exact updA) (by decide) y hy)) z hz, ch_bk (b := q8) (t := 156) (by first | exact pickA | exact updA) (fun y hy => okC2 (slb_nil y) (slb_bk (b := q7) (t := 5) (B := [8]) (by first | exact pickA | exact updA) (by decide) y hy)) z hz⟩)
  rintro _ _ ⟨-, happ⟩
  obtain ⟨a9, k9, l9, hm9, rfl, rfl, hn9, hk9, hl9⟩ := happ ⟨mayr1, may2⟩
  rw [show applyM (List.map RwV.m [⟨[97], ⟨some ⟨q5, 0, none⟩, [7], 1⟩⟩]) (List.map ChV.m [⟨[97], ⟨none, [], 0⟩, true⟩, ⟨[98], ⟨some ⟨q7, 0, none⟩, [8], 1⟩, false⟩]) = [([98], [8])] from app1] at hm9
  refine wk ?_
  refine CX.ps (PS.build (vs := [(0, sv [98])]) (out := [sv [98], .slice none 0 0, .bool false]) rfl rfl rfl) ?_
  refine CX.ps (PS.build (vs := [(0, sv [97])]) (out := [sv [97], .slice none 0 0, .bool false]) rfl rfl rfl) ?_
  refine CX.buildSl (parts := [(0, _), (1, _)]) (vs := [(0, .agg #[sv [98], .slice none 0 0, .bool false]), (1, .agg #[sv [97], .slice none 0 0, .bool false])]) (out := rows ChV.cells [⟨[98], ⟨none, [], 0⟩, false⟩, ⟨[97], ⟨none, [], 0⟩, false⟩]) rfl rfl (by decide) (by simp [fillL, Value.cells, setL]; rfl) fun q10 => ?_
  refine CX.callA (bput_c [⟨[98], ⟨none, [], 0⟩, false⟩, ⟨[97], ⟨none, [], 0⟩, false⟩] (by show 2 ≤ 1073741824; decide) (fun h => absurd h may3) (some ⟨q10, 0, none⟩) 2) ?_ (hpre := by exact ch_bk (b := q10) (t := 156) (by first | exact pickA | exact updA) (fun y hy => okC2 (slb_nil y) (slb_nil y)))
  rintro _ _ ⟨-, hbad⟩
  obtain ⟨rfl, rfl⟩ := hbad may3
  refine wk ?_
  refine CX.buildSl (parts := [(0, _), (1, _), (2, _), (3, _), (4, _), (5, _), (6, _), (7, _), (8, _), (9, _), (10, _), (11, _), (12, _), (13, _), (14, _)]) (vs := [(0, .int .u8 1), (1, .int .u8 0), (2, .int .u8 0), (3, .int .u8 0), (4, .int .u8 1), (5, .int .u8 0), (6, .int .u8 0), (7, .int .u8 0), (8, .int .u8 97), (9, .int .u8 0), (10, .int .u8 1), (11, .int .u8 0), (12, .int .u8 0), (13, .int .u8 0), (14, .int .u8 7)]) (out := cb [1, 0, 0, 0, 1, 0, 0, 0, 97, 0, 1, 0, 0, 0, 7]) rfl rfl (by decide) (by kernel_rfl) fun q11 => ?_
  refine CX.callA (same_c (putB c1M) [1, 0, 0, 0, 1, 0, 0, 0, 97, 0, 1, 0, 0, 0, 7] (some ⟨q3, 0, none⟩) (some ⟨q11, 0, none⟩) k3 15) ?_ (hpre := by exact fun y hy => ⟨rdx_own (e := 5) (n := (putB c1M).length) (by first | exact pickA | exact updA) rfl y hy, bk_rdx (b := q11) (t := 5) (cs := cb [1, 0, 0, 0, 1, 0, 0, 0, 97, 0, 1, 0, 0, 0, 7]) (by first | exact pickA | exact updA) rfl y hy⟩)
  rw [decide_eq_true put1]
  rintro _ _ ⟨rfl, rfl⟩
  refine wk ?_
  refine CX.callA (eqmC_c l4 [⟨[97], ⟨some ⟨q1, 0, none⟩, [7], 1⟩, false⟩] (by omega) a4 (some ⟨q2, 0, none⟩) k4 1 (by show 1 ≤ 9223372036854775806; decide)) ?_ (hpre := by exact fun y hy => ⟨ch_chs (by first | exact pickA | exact updA) y hy, ch_bk (b := q2) (t := 156) (by first | exact pickA | exact updA) (fun y hy => okC1 (slb_bk (b := q1) (t := 5) (B := [7]) (by first | exact pickA | exact updA) (by decide) y hy)) y hy⟩)
  rw [decide_eq_true (show l4.map ChV.m = List.map ChV.m [⟨[97], ⟨some ⟨q1, 0, none⟩, [7], 1⟩, false⟩] from hm4)]
  rintro _ _ ⟨rfl, rfl⟩
  refine wk ?_
  refine CX.buildSl (parts := [(0, _)]) (vs := [(0, .int .u8 8)]) (out := cb [8]) rfl rfl (by decide) (by simp [fillL, Value.cells, setL]; rfl) fun q12 => ?_
  refine CX.ps (PS.build (vs := [(0, sv [98]), (1, .slice (some ⟨q12, 0, none⟩) 1 1)]) (out := [sv [98], .slice (some ⟨q12, 0, none⟩) 1 1]) rfl rfl rfl) ?_
  refine CX.buildSl (parts := [(0, _)]) (vs := [(0, .agg #[sv [98], .slice (some ⟨q12, 0, none⟩) 1 1])]) (out := rows RwV.cells [⟨[98], ⟨some ⟨q12, 0, none⟩, [8], 1⟩⟩]) rfl rfl (by decide) (by simp [fillL, Value.cells, setL]; rfl) fun q13 => ?_
  refine CX.callA (eqmR_c l9 [⟨[98], ⟨some ⟨q12, 0, none⟩, [8], 1⟩⟩] (by have e : l9.length ≤ 3 := hl9; omega) a9 (some ⟨q13, 0, none⟩) k9 1 (by show 1 ≤ 9223372036854775806; decide)) ?_ (hpre := by exact fun y hy => ⟨rw_tab (by first | exact pickA | exact updA) y hy, rw_bk (b := q13) (t := 105) (by first | exact pickA | exact updA) (fun y hy => okR1 (slb_bk (b := q12) (t := 5) (B := [8]) (by first | exact pickA | exact updA) (by decide) y hy)) y hy⟩)
  rw [decide_eq_true (show l9.map RwV.m = List.map RwV.m [⟨[98], ⟨some ⟨q12, 0, none⟩, [8], 1⟩⟩] from hm9)]
  rintro _ _ ⟨rfl, rfl⟩
  refine wk ?_
  ((apply CQ.end1; (· rfl); (· exact .tmp rfl)); (· exact ⟨rfl, rfl⟩); (· exact selA))
end Go.Proofs.Ytlckhaodecdbbaa
/-! The statements' own doings of layer 7 (lives), and JournalNil, in the program. -/
namespace Go.Cx
theorem new_open : (openM (DS.new 66)).1 = 5 := by kernel_rfl
theorem new_len (n : Nat) : (DS.new n).sure.length = n := by simp [DS.new]
/-- A journal on a disk at rest, the power not to be cut. -/
structure GoodJ (n N : Nat) (D : DS) (J : JM) (bs : List Blk) : Prop where
  wf : D.wf N
  calm : Calm D
  left : D.left = 0
  len : D.sure.length = n
  js : JSt D.sure J bs
theorem GoodJ.bank {n N : Nat} {D : DS} {J : JM} {bs : List Blk} (g : GoodJ n N D J bs) : bankM D = (n - 2) / 2 := by unfold bankM; rw [g.len]
theorem GoodJ.read {n N : Nat} {D : DS} {J : JM} {bs : List Blk} (g : GoodJ n N D J bs) : readM J D = (bs, 0) := g.js.read g.calm
theorem GoodJ.up {n N M : Nat} {D : DS} {J : JM} {bs : List Blk} (g : GoodJ n N D J bs) (h : N ≤ M) : GoodJ n M D J bs := ⟨wf_up g.wf h, g.calm, g.left, g.len, g.js⟩
theorem bits_small {J : JM} (m : J.h.may) : J.h.bank < 256 ∧ J.h.batches < 4294967296 ∧ J.h.blocks < 4294967296 := by
  obtain ⟨a, b, c⟩ := m; omega
end Go.Cx
namespace Go.Proofs.Ytlckhaodecdbbaa
open Go.Cx
attribute [local irreducible] Go.Cx.CX Go.Cx.CC Go.Cx.CQ Go.Cx.PS Go.Cx.Ctr Go.Cx.CH
set_option maxRecDepth 10000
theorem japp_fit (p d : Nat) {n N : Nat} {D : DS} {J : JM} {bs : List Blk} (g : GoodJ n N D J bs) (n2 : J.n ≤ 59) (hN : N < 900000) (b : Blk) (m : Nat) (hm : b.length = m) (hb : m ≤ 1048576) (hr : J.h.blocks + (m + 131) / 128 ≤ (n - 2) / 2) (a : Option Addr) (cap : Nat) (hn : a = none → m = 0 ∧ cap = 0) :
    Ctr Try.prog 77 [.pointer (some ⟨p, 0, none⟩), .slice a m cap] [bk p 120 (jrc d J), disk d D] (fun x => rdx a m (cb b) x)
      (fun v M => v = .int .i64 0 ∧ ∃ D', M = [bk p 120 (jrc d ⟨J.n + 1, ⟨J.h.bank, J.h.blocks + (m + 131) / 128, J.h.batches + 1⟩⟩), disk d D'] ∧ GoodJ n (N + 2060) D' ⟨J.n + 1, ⟨J.h.bank, J.h.blocks + (m + 131) / 128, J.h.batches + 1⟩⟩ (bs ++ [b])) := by
  subst hm
  have hcl := cut_len b
  obtain ⟨D', e, h1, h2, h3, h4⟩ := append_go g.js g.calm g.left n2 hb (by unfold bankS; rw [hcl, g.len]; exact hr)
  refine Ctr.conseq (japp_c p d J (by omega) g.js.may D g.wf (by omega) b (by omega) a cap hn) fun v M hv => ?_
  unfold DoneP at hv
  rw [e, hcl] at hv
  obtain ⟨rfl, rfl, hw⟩ := hv
  rw [hcl] at h4
  exact ⟨_, ⟨rfl, D', rfl, hw, h1, h2, by rw [h3, g.len], h4⟩, fun x h hs => hs⟩
theorem japp_full (p d : Nat) {n N : Nat} {D : DS} {J : JM} {bs : List Blk} (g : GoodJ n N D J bs) (n2 : J.n ≤ 59) (hN : N < 900000) (b : Blk) (m : Nat) (hm : b.length = m) (hb : m ≤ 1048576) (hr : ¬ J.h.blocks + (m + 131) / 128 ≤ (n - 2) / 2) (a : Option Addr) (cap : Nat) (hn : a = none → m = 0 ∧ cap = 0) :
    Ctr Try.prog 77 [.pointer (some ⟨p, 0, none⟩), .slice a m cap] [bk p 120 (jrc d J), disk d D] (fun x => rdx a m (cb b) x)
      (fun v M => v = .int .i64 10 ∧ M = [bk p 120 (jrc d J), disk d D]) := by
  subst hm
  have hcl := cut_len b
  have e := (append_out g.js g.calm n2 hb).1 (by unfold bankS; rw [hcl, g.len]; omega)
  refine Ctr.conseq (japp_c p d J (by omega) g.js.may D g.wf (by omega) b (by omega) a cap hn) fun v M hv => ?_
  unfold DoneP at hv
  rw [e] at hv
  obtain ⟨rfl, rfl, hw⟩ := hv
  exact ⟨_, ⟨rfl, rfl⟩, fun x h hs => hs⟩
theorem jrep_fit (p d : Nat) {n N : Nat} {D : DS} {J : JM} {bs : List Blk} (g : GoodJ n N D J bs) (n2 : J.n ≤ 59) (hN : N < 900000) (b : Blk) (m : Nat) (hm : b.length = m) (hb : m ≤ 1048576) (hr : (m + 131) / 128 ≤ (n - 2) / 2) (a : Option Addr) (cap : Nat) (hn : a = none → m = 0 ∧ cap = 0) :
    Ctr Try.prog 76 [.pointer (some ⟨p, 0, none⟩), .slice a m cap] [bk p 120 (jrc d J), disk d D] (fun x => rdx a m (cb b) x)
      (fun v M => v = .int .i64 0 ∧ ∃ D', M = [bk p 120 (jrc d ⟨J.n + 1, ⟨1 - J.h.bank, (m + 131) / 128, 1⟩⟩), disk d D'] ∧ GoodJ n (N + 2060) D' ⟨J.n + 1, ⟨1 - J.h.bank, (m + 131) / 128, 1⟩⟩ [b]) := by
  subst hm
  have hcl := cut_len b
  obtain ⟨D', e, h1, h2, h3, h4⟩ := replace_go g.js g.calm g.left n2 hb (by unfold bankS; rw [hcl, g.len]; exact hr)
  refine Ctr.conseq (jrep_c p d J (by omega) g.js.may D g.wf (by omega) b (by omega) a cap hn) fun v M hv => ?_
  unfold DoneP at hv
  rw [e, hcl] at hv
  obtain ⟨rfl, rfl, hw⟩ := hv
  rw [hcl] at h4
  exact ⟨_, ⟨rfl, D', rfl, hw, h1, h2, by rw [h3, g.len], h4⟩, fun x h hs => hs⟩
theorem jrep_full (p d : Nat) {n N : Nat} {D : DS} {J : JM} {bs : List Blk} (g : GoodJ n N D J bs) (n2 : J.n ≤ 59) (hN : N < 900000) (b : Blk) (m : Nat) (hm : b.length = m) (hb : m ≤ 1048576) (hr : ¬ (m + 131) / 128 ≤ (n - 2) / 2) (a : Option Addr) (cap : Nat) (hn : a = none → m = 0 ∧ cap = 0) :
    Ctr Try.prog 76 [.pointer (some ⟨p, 0, none⟩), .slice a m cap] [bk p 120 (jrc d J), disk d D] (fun x => rdx a m (cb b) x)
      (fun v M => v = .int .i64 10 ∧ M = [bk p 120 (jrc d J), disk d D]) := by
  subst hm
  have hcl := cut_len b
  have e := (replace_out g.js g.calm n2 hb).1 (by unfold bankS; rw [hcl, g.len]; omega)
  refine Ctr.conseq (jrep_c p d J (by omega) g.js.may D g.wf (by omega) b (by omega) a cap hn) fun v M hv => ?_
  unfold DoneP at hv
  rw [e] at hv
  obtain ⟨rfl, rfl, hw⟩ := hv
  exact ⟨_, ⟨rfl, rfl⟩, fun x h hs => hs⟩
theorem jmake_new (d n : Nat) (h1 : 64 ≤ n) (h2 : n ≤ 4096) : Ctr Try.prog 72 [.pointer (some ⟨d, 0, none⟩)] [disk d (DS.new n)] (fun _ => True)
    (fun v M => ∃ p D, v = .tuple #[.pointer (some ⟨p, 0, none⟩), .int .i64 0] ∧ M = [bk p 120 (jrc d ⟨1, HdM.z⟩), disk d D] ∧ GoodJ n 2060 D ⟨1, HdM.z⟩ []) := by
  obtain ⟨m1, m2, m3, m4, m5, m6⟩ := make_new (n := n) h1 h2
  refine Ctr.conseq (jmake_c d (DS.new n) (new_wf h1 h2) (by omega)) fun v M hv => ?_
  unfold MadeP at hv
  obtain ⟨hw, -, hp⟩ := hv.2 rfl
  obtain ⟨p, rfl, rfl⟩ := hp m1
  rw [m2]
  exact ⟨_, ⟨p, _, rfl, rfl, by rw [Nat.zero_add] at hw; exact hw, m3, m4, m5, m6⟩, fun x h hs => hs⟩
theorem jroom_go (p d : Nat) {n N : Nat} {D : DS} {J : JM} {bs : List Blk} (g : GoodJ n N D J bs) : Ctr Try.prog 73 [.pointer (some ⟨p, 0, none⟩)] [bk p 120 (jrc d J), disk d D] (fun _ => True)
    (fun v M => v = .int .i64 ((((n - 2) / 2 : Nat) : Int) - (J.h.blocks : Int)) ∧ M = [bk p 120 (jrc d J), disk d D]) := by
  have := jroom_c p d J (bits_small g.js.may).2.2 D g.wf
  rw [g.bank] at this; exact this
theorem jbat_go (p d : Nat) {n N : Nat} {D : DS} {J : JM} {bs : List Blk} (g : GoodJ n N D J bs) (hN : N < 1000000) : Ctr Try.prog 75 [.pointer (some ⟨p, 0, none⟩)] [bk p 120 (jrc d J), disk d D] (fun _ => True)
    (fun v M => ∃ a c l, l.map SlB.b = bs ∧ l.length = J.h.batches ∧ v = .slice a J.h.batches c ∧ M = [bk p 120 (jrc d J), disk d D, bsA a l] ∧ (a = none → l.length = 0 ∧ c = 0) ∧ l.length ≤ c) := by
  obtain ⟨h1, h2, h3⟩ := bits_small g.js.may
  refine Ctr.conseq (jbat_c p d J h1 h2 h3 D g.wf hN) fun v M hv => ?_
  rw [g.read] at hv
  obtain ⟨a, c, l, hl, rfl, rfl, hn, hc⟩ := hv
  have hlen : l.length = J.h.batches := by
    have := congrArg List.length hl
    simp only [List.length_map] at this
    rw [g.js.batches, this]
  exact ⟨_, ⟨a, c, l, hl, hlen, by rw [hlen], rfl, hn, hc⟩, fun x h hs => hs⟩
theorem lives7_c : Ctr Try.prog 78 [] [] (fun _ => True) (fun v M => v = .bool true ∧ M = []) := by
  have hwf0 := new_wf (k := 66) (by omega) (by omega)
  refine Ctr.intro Try.func78 rfl Try.ntmps78 rfl fun x w hp => ?_
  refine wk ?_
  refine CX.callA (new_c 66) ?_
  rintro _ _ (⟨-, -, d, rfl, rfl⟩ | ⟨h, -, -⟩)
  rotate_left
  · omega
  refine wk ?_
  refine CX.callA (jopen_c d (DS.new 66) hwf0 (by omega)) ?_
  unfold OpenP
  rintro _ _ ⟨ho, -⟩
  obtain ⟨rfl, rfl⟩ := ho (by rw [new_open]; decide)
  rw [new_open]
  refine wk ?_
  refine CX.callA (jmake_new d 66 (by decide) (by decide)) ?_
  rintro _ _ ⟨p, D1, rfl, rfl, g1⟩
  refine wk ?_
  refine CX.callA (jroom_go p d g1) ?_
  rintro _ _ ⟨rfl, rfl⟩
  refine wk ?_
  (refine CX.makeB (125) (by decide) ?_; intro q)
  refine CX.callA (japp_fit p d g1 (by decide) (by decide) (List.replicate 125 0) 125 (by simp) (by decide) (by decide) (some ⟨q, 0, none⟩) 125 (fun h => by cases h)) ?_ (hpre := by exact rdx_own (by first | exact pickA | exact updA) (by simp))
  rintro _ _ ⟨rfl, D2, rfl, g2⟩
  refine wk ?_
  refine CX.callA (japp_fit p d g2 (by decide) (by decide) [] 0 rfl (by decide) (by decide) none 0 (fun _ => ⟨rfl, rfl⟩)) ?_ (hpre := by exact fun _ _ => .inl rfl)
  rintro _ _ ⟨rfl, D3, rfl, g3⟩
  refine wk ?_
  refine CX.callA (jroom_go p d g3) ?_
  rintro _ _ ⟨rfl, rfl⟩
  refine wk ?_
  refine CX.buildSl (parts := [(0, _), (1, _), (2, _)]) (vs := [(0, .int .u8 1), (1, .int .u8 2), (2, .int .u8 3)]) (out := cb [1, 2, 3]) rfl rfl (by decide) (by simp [fillL, Value.cells, setL]; rfl) fun q1 => ?_
  refine CX.callA (jrep_fit p d g3 (by decide) (by decide) [1, 2, 3] 3 rfl (by decide) (by decide) (some ⟨q1, 0, none⟩) 3 (fun h => by cases h)) ?_ (hpre := by exact bk_rdx (b := q1) (t := 5) (by first | exact pickA | exact updA) rfl)
  rintro _ _ ⟨rfl, D4, rfl, g4⟩
  refine wk ?_
  refine CX.callA (jbat_go p d g4 (by decide)) ?_
  rintro _ _ ⟨a5, c5, l5, hm5, hl5, rfl, rfl, -, -⟩
  dsimp only at hl5
  refine wk ?_
  obtain ⟨r, rfl⟩ : ∃ r, l5 = [r] := by
    match l5, hl5 with
    | [r], _ => exact ⟨r, rfl⟩
  simp only [List.map_cons, List.map_nil, List.cons.injEq, and_true] at hm5
  refine CX.fact (p := ∃ x5, bsAt a5 [r] x5) (fun y hy => ⟨y, bs_bsA (by first | exact pickA | exact updA) y hy⟩) ?_
  rintro ⟨x5, hx5⟩
  obtain ⟨g, o, rfl⟩ := bsAt_some hx5 Nat.one_pos
  clear hx5 x5
  (refine CX.indexA (0) ?_ ?_; (· decide))
  (apply CX.ps; (· apply PS.load (v := .slice r.a r.b.length r.c); (· rfl); (· rfl); (· exact bsA_cell (l := [r]) (i := 0) (by first | exact pickA | exact updA) Nat.one_pos)))
  refine CX.buildSl (parts := [(0, _), (1, _), (2, _)]) (vs := [(0, .int .u8 1), (1, .int .u8 2), (2, .int .u8 3)]) (out := cb [1, 2, 3]) rfl rfl (by decide) (by simp [fillL, Value.cells, setL]; rfl) fun q6 => ?_
  refine CX.callA (same_c r.b [1, 2, 3] r.a (some ⟨q6, 0, none⟩) r.c 3) ?_ (hpre := by exact fun y hy => ⟨((bs_bsA (l := [r]) (by first | exact pickA | exact updA) y hy).2 r (by simp)).r, bk_rdx (b := q6) (t := 5) (by first | exact pickA | exact updA) rfl y hy⟩)
  rw [decide_eq_true hm5]
  rintro _ _ ⟨rfl, rfl⟩
  refine wk ?_
  refine CX.callA (jroom_go p d g4) ?_
  rintro _ _ ⟨rfl, rfl⟩
  refine wk ?_
  refine CX.callA (jhead_c p d _) ?_
  rintro _ _ ⟨rfl, rfl⟩
  refine wk ?_
  (refine CX.makeB (3968) (by decide) ?_; intro q7)
  refine CX.callA (japp_full p d g4 (by decide) (by decide) (List.replicate 3968 0) 3968 (by rw [List.length_replicate]) (by decide) (by decide) (some ⟨q7, 0, none⟩) 3968 (fun h => by cases h)) ?_ (hpre := by exact rdx_own (by first | exact pickA | exact updA) (by rw [List.length_replicate]))
  rintro _ _ ⟨rfl, rfl⟩
  refine wk ?_
  ((apply CQ.end1; (· rfl); (· exact .tmp rfl)); (· exact ⟨rfl, rfl⟩); (· exact selA))
theorem nil7_c (b : Blk) (a : Option Addr) (cap : Nat) (zero : Bool) : Ctr Try.prog 19 [.slice a b.length cap, .bool zero] [] (fun _ => True) (fun v M => v = .bool true ∧ M = []) := by
  cases zero with
  | false =>
    refine Ctr.intro Try.func19 rfl Try.ntmps19 rfl fun x w hp => ?_
    refine wk ?_
    (have cc := jmakeN_c none; simp only [nres, nptr, Option.map] at cc; refine CX.callA cc ?_; clear cc; rintro _ _ ⟨rfl, rfl⟩)
    refine wk ?_
    (have cc := jopenN_c none; simp only [nres, nptr, Option.map] at cc; refine CX.callA cc ?_; clear cc; rintro _ _ ⟨rfl, rfl⟩)
    refine wk ?_
    (have cc := jappN_c none a b.length cap; simp only [njres, nptr, Option.map] at cc; refine CX.callA cc ?_; clear cc; rintro _ _ ⟨rfl, rfl⟩)
    refine wk ?_
    (have cc := jrepN_c none a b.length cap; simp only [njres, nptr, Option.map] at cc; refine CX.callA cc ?_; clear cc; rintro _ _ ⟨rfl, rfl⟩)
    refine wk ?_
    (have cc := jbatN_c none; simp only [njres, nptr, Option.map] at cc; refine CX.callA cc ?_; clear cc; rintro _ _ ⟨rfl, rfl⟩)
    refine wk ?_
    (have cc := jroomN_c none; simp only [njres, nptr, Option.map] at cc; refine CX.callA cc ?_; clear cc; rintro _ _ ⟨rfl, rfl⟩)
    refine wk ?_
    (have cc := jheadN_c none; simp only [njres, nptr, Option.map] at cc; refine CX.callA cc ?_; clear cc; rintro _ _ ⟨rfl, rfl⟩)
    refine wk ?_
    (apply CX.ps; (· apply PS.build (vs := []) (out := hc HdM.z); (· rfl); (· rfl); (· rfl)))
    (apply CX.ps; (· refine PS.toT (eqlHd (a := HdM.z) (b := HdM.z) rfl rfl rfl) ?_; (· rfl)))
    refine wk ?_
    refine CX.callA (lives7_c) ?_
    rintro _ _ ⟨rfl, rfl⟩
    refine wk ?_
    ((apply CQ.end1; (· rfl); (· exact .tmp rfl)); (· exact ⟨rfl, rfl⟩); (· exact selA))
  | true =>
    refine Ctr.intro Try.func19 rfl Try.ntmps19 rfl fun x w hp => ?_
    refine wk ?_
    (apply CX.ps; (· apply PS.build (parts := []) (vs := []) (out := [.slice none 0 0, .slice none 0 0, .int .i64 0, .int .i64 0, .bool false]); (· rfl); (· rfl); (· rfl)))
    (refine CX.boxA ?_; intro pd)
    refine wk ?_
    (apply CX.ps; (· apply PS.build (parts := []) (vs := []) (out := [.pointer none, .int .u64 0, .int .u8 0, .int .u32 0, .int .u32 0]); (· rfl); (· rfl); (· rfl)))
    (refine CX.boxA ?_; intro pj)
    refine wk ?_
    (have cc := jmakeN_c (some pd); simp only [nres, nptr, Option.map] at cc; refine CX.callA cc ?_; clear cc; rintro _ _ ⟨rfl, rfl⟩)
    refine wk ?_
    (have cc := jopenN_c (some pd); simp only [nres, nptr, Option.map] at cc; refine CX.callA cc ?_; clear cc; rintro _ _ ⟨rfl, rfl⟩)
    refine wk ?_
    (have cc := jappN_c (some pj) a b.length cap; simp only [njres, nptr, Option.map] at cc; refine CX.callA cc ?_; clear cc; rintro _ _ ⟨rfl, rfl⟩)
    refine wk ?_
    (have cc := jrepN_c (some pj) a b.length cap; simp only [njres, nptr, Option.map] at cc; refine CX.callA cc ?_; clear cc; rintro _ _ ⟨rfl, rfl⟩)
    refine wk ?_
    (have cc := jbatN_c (some pj); simp only [njres, nptr, Option.map] at cc; refine CX.callA cc ?_; clear cc; rintro _ _ ⟨rfl, rfl⟩)
    refine wk ?_
    (have cc := jroomN_c (some pj); simp only [njres, nptr, Option.map] at cc; refine CX.callA cc ?_; clear cc; rintro _ _ ⟨rfl, rfl⟩)
    refine wk ?_
    (have cc := jheadN_c (some pj); simp only [njres, nptr, Option.map] at cc; refine CX.callA cc ?_; clear cc; rintro _ _ ⟨rfl, rfl⟩)
    refine wk ?_
    (apply CX.ps; (· apply PS.build (vs := []) (out := hc HdM.z); (· rfl); (· rfl); (· rfl)))
    (apply CX.ps; (· refine PS.toT (eqlHd (a := HdM.z) (b := HdM.z) rfl rfl rfl) ?_; (· rfl)))
    refine wk ?_
    refine CX.callA (lives7_c) ?_
    rintro _ _ ⟨rfl, rfl⟩
    refine wk ?_
    ((apply CQ.end1; (· rfl); (· exact .tmp rfl)); (· exact ⟨rfl, rfl⟩); (· exact selA))
end Go.Proofs.Ytlckhaodecdbbaa
/-! The statement JournalRoom, in the program. -/
namespace Go.Cx
/-- A batch that is laid: how, and its bytes. -/
structure LayV where
  all : Bool
  s : SlB
def LayV.cells (r : LayV) : List Value := [.bool r.all, .slice r.s.a r.s.b.length r.s.c]
def lyAt (a : Option Addr) (l : List LayV) (x : PH) : Prop := rdx a (l.length * 2) (rows LayV.cells l) x ∧ ∀ r ∈ l, r.s.ok x
theorem ly_len (l : List LayV) : ∀ y ∈ l, (LayV.cells y).length = 2 := fun _ _ => rfl
theorem lyAt_some {a : Option Addr} {l : List LayV} {x : PH} (h : lyAt a l x) (h0 : 0 < l.length) : ∃ g off, a = some ⟨g, off, none⟩ := rdx_some h.1 (by omega)
theorem lyAt.cell {L L' : List Assn} {x : PH} {g off i : Nat} {l : List LayV} {v : Value} (h : lyAt (some ⟨g, off, none⟩) l x) (p : Pick (exact x) L L') (hi : i < l.length) (j : Nat) (hv : (l[i]).cells[j]? = some v) : CellAt L g (off + i * 2 + j) v :=
  fun y hy => by
    obtain ⟨cs, t, fr, e, hc⟩ := CellsAt.row p h.1 (by omega) (ly_len l) hi y hy
    exact ⟨cs, t, fr, e, hc j v hv⟩
/-- The first bytes of a slice. -/
theorem PS.front {P : Program} {ops : Array Oper} {n : Nat} {env : Env} {L : List Assn} {dst : Option Tmp} {ty : TypeId} {pos : String} {aft : Array Edge} {g : Option (Nat × Bool)} {t e sz : Nat} [E : ElemA P t e sz] {x y : Operand} {a : Option Addr} {len cap h : Nat} {k : IntKind} {z : Int}
    (hg : gd ops n env g = some true) (hx : ev n env x = some (.slice a len cap)) (hy : ev n env y = some (.int k z)) (hz : z = (h : Int)) (hc : h ≤ cap) :
    PS P ops n env L ⟨dst, .slice t x none (some y) none, ty, pos, aft, g⟩ (.slice (cutAt a 0 cap sz) h cap) := by
  subst hz
  exact PS.slice (P := P) (ops := ops) (n := n) (env := env) (L := L) (dst := dst) (ty := ty) (pos := pos) (aft := aft) (g := g) (t := t) (lo := none) (hi := some y) (l := 0) (h := h) hg hx rfl (by simp [bndV, hy]) (.inl ⟨rfl, rfl⟩) (.inr ⟨k, rfl⟩) (Nat.zero_le _) hc
theorem cut_front {r : SlB} {x : PH} (h : r.ok x) (m : Nat) (hm : m ≤ r.b.length) : rdx (cutAt r.a 0 r.c 1) m (cb (r.b.take m)) x ∧ (cutAt r.a 0 r.c 1 = none → m = 0 ∧ r.c = 0) := by
  have hn : cutAt r.a 0 r.c 1 = none → m = 0 ∧ r.c = 0 := fun e => by
    have : r.a = none := by
      unfold cutAt at e; split at e
      · exact e
      · simpa using e
    obtain ⟨e1, e2⟩ := h.nil this
    rw [e1] at hm; simp at hm; exact ⟨hm, e2⟩
  refine ⟨?_, hn⟩
  rcases Nat.eq_zero_or_pos m with h0 | h0
  · exact .inl h0
  · obtain ⟨g, off, e⟩ := rdx_some h.r (by omega)
    have := rdx_front h.r rfl m hm
    rw [e] at this ⊢
    rw [cutAt_zero]; exact this
end Go.Cx
namespace Go.Proofs.Ytlckhaodecdbbaa
open Go.Cx
attribute [local irreducible] Go.Cx.CX Go.Cx.CC Go.Cx.CQ Go.Cx.PS Go.Cx.Ctr Go.Cx.CH
set_option maxRecDepth 10000
theorem room7_c (n : Nat) (hn : n < 256) (l : List LayV) (a : Option Addr) (c : Nat) : Ctr Try.prog 18 [.int .u8 (n : Int), .slice a l.length c] [] (fun x => lyAt a l x) (fun v M => v = .bool true ∧ M = []) := by
  refine Ctr.intro Try.func18 rfl Try.ntmps18 rfl fun x w hp => ?_
  refine wk ?_
  refine CX.callA (new_c ((64 : Int) + (n : Int))) ?_
  rw [show ((64 : Int) + (n : Int)).toNat = 64 + n by omega]
  rintro _ _ (⟨-, -, d, rfl, rfl⟩ | ⟨h, -, -⟩)
  rotate_left
  · omega
  refine wk ?_
  refine CX.callA (jmake_new d (64 + n) (by omega) (by omega)) ?_
  rintro _ _ ⟨p, D1, rfl, rfl, g1⟩
  refine wk ?_
  refine CX.callA (jroom_go p d g1) ?_
  rintro _ _ ⟨rfl, rfl⟩
  have hq : IntKind.i64.wrap ((64 + (n : Int) - 2).tdiv 2) = ((((64 + n) - 2) / 2 : Nat) : Int) := by
    rw [tdiv_nn (by omega), wr_i64 (by omega) (by omega)]; omega
  have hz : HdM.z.blocks = 0 := rfl
  refine wk ?_
  refine CX.ps (PS.quo rfl rfl rfl (by decide) hq) ?_
  dsimp only
  rw [hz]
  refine wk ?_
  refine CC.loop (X := Nat × JM × DS × List Blk) (fun s => [(10, .int .i64 (s.1 : Int)), (1, .slice a l.length c), (5, .int .i64 (64 + (n : Int))), (8, .pointer (some ⟨p, 0, none⟩))])
    (fun s => [bk p 120 (jrc d s.2.1), disk d s.2.2.1, exact x]) (fun s => s.1 ≤ 40 ∧ s.2.1.n ≤ s.1 + 1 ∧ GoodJ (64 + n) (2060 + s.1 * 2060) s.2.2.1 s.2.1 s.2.2.2) (fun s => 40 - s.1) (0, ⟨1, HdM.z⟩, D1, []) ⟨Nat.zero_le _, Nat.le_refl _, g1⟩ ⟨rfl, rfl, rfl, rfl, trivial⟩ (by exact selA) ?_
  rintro ⟨i, J, D, bs⟩ ⟨hi, hJ, g⟩
  dsimp only at hi hJ g ⊢
  by_cases h1 : i < l.length ∧ i < 40
  rotate_left
  · by_cases h2 : i < l.length
    · have h3 : ¬ (i : Int) < 40 := by omega
      refine wk ?_
      refine CX.callA (lives7_c) ?_
      rintro _ _ ⟨rfl, rfl⟩
      refine wk ?_
      ((apply CQ.end1; (· rfl); (· exact .tmp rfl)); (· exact ⟨rfl, rfl⟩); (· exact selA))
    · refine wk ?_
      refine CX.callA (lives7_c) ?_
      rintro _ _ ⟨rfl, rfl⟩
      refine wk ?_
      ((apply CQ.end1; (· rfl); (· exact .tmp rfl)); (· exact ⟨rfl, rfl⟩); (· exact selA))
  obtain ⟨h1, h2⟩ := h1
  obtain ⟨ga, oa, rfl⟩ := lyAt_some hp (by omega)
  have hsok := hp.2 l[i] (List.getElem_mem h1)
  have hcl0 := hp.cell (i := i) (L := [exact x]) (L' := []) (.head _) h1 0 rfl
  have hcA : ∀ {L L' : List Assn}, Pick (exact x) L L' → CellAt L ga (oa + i * 2 + 0) (.bool (l[i]).all) := fun pk => hp.cell pk h1 0 rfl
  have hcS : ∀ {L L' : List Assn}, Pick (exact x) L L' → CellAt L ga (oa + i * 2 + 1) (.slice (l[i]).s.a (l[i]).s.b.length (l[i]).s.c) := fun pk => hp.cell pk h1 1 rfl
  clear hcl0
  generalize l[i] = r at *
  have hmn : min r.s.b.length 3000 ≤ r.s.b.length := Nat.min_le_left _ _
  have hm3 : min r.s.b.length 3000 ≤ 3000 := Nat.min_le_right _ _
  have hmI : min (r.s.b.length : Int) 3000 = ((min r.s.b.length 3000 : Nat) : Int) := by omega
  have hle := hsok.le
  obtain ⟨hrd, hnil⟩ := cut_front hsok _ hmn
  have hblen : (r.s.b.take (min r.s.b.length 3000)).length = min r.s.b.length 3000 := by simp
  have hrow := r1row_c (r.s.b.take (min r.s.b.length 3000)) (by rw [hblen]; omega) (cutAt r.s.a 0 r.s.c 1) r.s.c (by rw [hblen]; exact hnil)
  rw [hblen] at hrow
  generalize min r.s.b.length 3000 = m at *
  generalize r.s.b.take m = B at *
  generalize ha' : cutAt r.s.a 0 r.s.c 1 = a' at *
  have ht : IntKind.i64.wrap ((((4 + m : Nat) : Int) + 128 - 1).tdiv 128) = (((m + 131) / 128 : Nat) : Int) := by
    rw [tdiv_nn (by omega), wr_i64 (by omega) (by omega)]; omega
  have htk : (m + 131) / 128 ≤ 25 := by omega
  have hmay := g.js.may
  have hbl := hmay.2.1
  have hba := hmay.2.2
  have hgr := g.js.room
  unfold bankS at hgr
  rw [g.len] at hgr
  generalize hT : (m + 131) / 128 = T at *
  refine wk ?_
  refine CC.draw [(0, 0), (1, 0), (2, 0), (3, 0), (4, 1), (5, 0), (6, 0), (7, 0), (8, 0), (9, 1), (10, 0), (11, 0), (12, 0), (13, 0)] mixed rfl (by kernel_rfl) (by kernel_rfl) [exact x] ?_
  refine hwk ?_
  refine CH.pure rfl (PS.indexAddr (j := i) rfl rfl rfl rfl h1) ?_
  refine hwk ?_
  (apply CH.read; (· rfl); (· apply PS.load (v := .slice r.s.a r.s.b.length r.s.c); (· rfl); (· rfl); (· exact hcS (by first | exact pickA | exact updA))); (· exact selA))
  refine hwk ?_
  refine CH.pure rfl (PS.indexAddr (j := i) rfl rfl rfl rfl h1) ?_
  refine hwk ?_
  (apply CH.read; (· rfl); (· apply PS.load (v := .slice r.s.a r.s.b.length r.s.c); (· rfl); (· rfl); (· exact hcS (by first | exact pickA | exact updA))); (· exact selA))
  refine hwk ?_
  refine CH.pure rfl (PS.front (h := m) rfl rfl rfl hmI (by omega)) ?_
  rw [ha']
  refine hwk ?_
  refine wk ?_
  refine CX.callA (hrow) ?_ (hpre := by exact rdx_ex (by first | exact pickA | exact updA) hrd)
  rintro _ _ ⟨b7, c7, rfl, rfl⟩
  refine wk ?_
  refine CX.ps (PS.quo rfl rfl rfl (by decide) ht) ?_
  refine wk ?_
  refine CX.callA (jroom_go p d g) ?_
  rintro _ _ ⟨rfl, rfl⟩
  refine wk ?_
  refine CX.callA (jbat_go p d g (by omega)) ?_
  rintro _ _ ⟨a5, c5, l5, -, -, rfl, rfl, -, -⟩
  refine wk ?_
  (refine CX.indexA (i) ?_ ?_; (· exact h1))
  refine wk ?_
  (apply CX.ps; (· apply PS.load (v := .bool r.all); (· rfl); (· rfl); (· exact hcA (by first | exact pickA | exact updA))))
  cases hall : r.all with
  | true =>
    rw [hall] at hcA
    by_cases hfit : T ≤ (64 + n - 2) / 2
    · refine wk ?_
      refine CX.ps (PS.quo rfl rfl rfl (by decide) hq) ?_
      refine wk ?_
      (refine CX.indexA (i) ?_ ?_; (· exact h1))
      refine wk ?_
      (apply CX.ps; (· apply PS.load (v := .bool true); (· rfl); (· rfl); (· exact hcA (by first | exact pickA | exact updA))))
      refine wk ?_
      refine CX.callA (jrep_fit p d g (by omega) (by omega) B m hblen (by omega) (by rw [hT]; exact hfit) a' r.s.c hnil) ?_ (hpre := by exact rdx_ex (by first | exact pickA | exact updA) hrd)
      rw [hT]
      rintro _ _ ⟨rfl, D', rfl, g'⟩
      refine wk ?_
      (refine CX.ps (PS.neqBool false ?_ Try.underlying4 rfl rfl rfl) ?_; (· rfl))
      refine wk ?_
      refine CX.callA (jroom_go p d g') ?_
      rintro _ _ ⟨rfl, rfl⟩
      dsimp only
      refine wk ?_
      refine CX.callA (jbat_go p d g' (by omega)) ?_
      rintro _ _ ⟨a6, c6, l6, -, -, rfl, rfl, -, -⟩
      dsimp only
      refine wk ?_
      exact CQ.round (x := (i, J, D, bs)) (i + 1, ⟨J.n + 1, ⟨1 - J.h.bank, T, 1⟩⟩, D', [B]) ⟨by dsimp only; omega, by dsimp only; omega, g'.up (by omega)⟩ (by dsimp only; omega) ⟨eqI (by omega), rfl, rfl, rfl, trivial⟩ (by exact selA)
    · omega
  | false =>
    rw [hall] at hcA
    by_cases hfit : J.h.blocks + T ≤ (64 + n - 2) / 2
    · refine wk ?_
      (refine CX.indexA (i) ?_ ?_; (· exact h1))
      refine wk ?_
      (apply CX.ps; (· apply PS.load (v := .bool false); (· rfl); (· rfl); (· exact hcA (by first | exact pickA | exact updA))))
      refine wk ?_
      refine CX.callA (japp_fit p d g (by omega) (by omega) B m hblen (by omega) (by rw [hT]; exact hfit) a' r.s.c hnil) ?_ (hpre := by exact rdx_ex (by first | exact pickA | exact updA) hrd)
      rw [hT]
      rintro _ _ ⟨rfl, D', rfl, g'⟩
      refine wk ?_
      (refine CX.ps (PS.neqBool false ?_ Try.underlying4 rfl rfl rfl) ?_; (· rfl))
      refine wk ?_
      refine CX.callA (jroom_go p d g') ?_
      rintro _ _ ⟨rfl, rfl⟩
      dsimp only
      refine wk ?_
      refine CX.callA (jbat_go p d g' (by omega)) ?_
      rintro _ _ ⟨a6, c6, l6, -, -, rfl, rfl, -, -⟩
      dsimp only
      refine wk ?_
      exact CQ.round (x := (i, J, D, bs)) (i + 1, ⟨J.n + 1, ⟨J.h.bank, J.h.blocks + T, J.h.batches + 1⟩⟩, D', bs ++ [B]) ⟨by dsimp only; omega, by dsimp only; omega, g'.up (by omega)⟩ (by dsimp only; omega) ⟨eqI (by omega), rfl, rfl, rfl, trivial⟩ (by exact selA)
    · refine wk ?_
      (refine CX.indexA (i) ?_ ?_; (· exact h1))
      refine wk ?_
      (apply CX.ps; (· apply PS.load (v := .bool false); (· rfl); (· rfl); (· exact hcA (by first | exact pickA | exact updA))))
      refine wk ?_
      refine CX.callA (japp_full p d g (by omega) (by omega) B m hblen (by omega) (by rw [hT]; exact hfit) a' r.s.c hnil) ?_ (hpre := by exact rdx_ex (by first | exact pickA | exact updA) hrd)
      rintro _ _ ⟨rfl, rfl⟩
      refine wk ?_
      (refine CX.ps (PS.neqBool false ?_ Try.underlying4 rfl rfl rfl) ?_; (· rfl))
      refine wk ?_
      exact CQ.round (x := (i, J, D, bs)) (i + 1, J, D, bs) ⟨by dsimp only; omega, by dsimp only; omega, g.up (by omega)⟩ (by dsimp only; omega) ⟨eqI (by omega), rfl, rfl, rfl, trivial⟩ (by exact selA)
end Go.Proofs.Ytlckhaodecdbbaa
/-! What may be read of rows and changes. -/
namespace Go.Cx
section
variable {H : Type} {enc : TypeId × Value → H} {P : Program} {w : World} {base : Nat} {spare : Nat → Bool} {held : Bool}
theorem rec_str {t : TypeId} (ht : P.underlying t = some .string) : Rec enc P w base spare held t (fun b : Blk => b.length ≤ maxLen) (fun b => [sv b]) := fun n cs x h => by
  obtain ⟨s, rfl, _, hs⟩ := DataW.trod_string ht h
  exact ⟨s.data.toList, by simpa using hs, by simp [sv]⟩
theorem rec_boolC {t : TypeId} (ht : P.underlying t = some .bool) : Rec enc P w base spare held t (fun _ : Bool => True) (fun b => [.bool b]) := fun n cs x h => by
  obtain ⟨b, rfl, _⟩ := DataW.trod_bool ht h
  exact ⟨b, trivial, rfl⟩
end
end Go.Cx
namespace Go.Proofs.Ytlckhaodecdbbaa
open Go.Cx
theorem rec_chg {H : Type} {enc : TypeId × Value → H} {w : World} {base : Nat} {spare : Nat → Bool} {held : Bool} :
    Rec enc Try.prog w base spare held 156 (fun r : ChV => r.s.ok w.ph) ChV.cells := fun n cs x h => by
  obtain ⟨hl, m, hf⟩ := trod_fields Try.underlying156 h
  have c1 : Try.prog.cellsOf 9 = 1 := by kernel_rfl
  have c2 : Try.prog.cellsOf 45 = 1 := by kernel_rfl
  have c3 : Try.prog.cellsOf 4 = 1 := by kernel_rfl
  have c4 : Try.prog.cellsOf 156 = 3 := by kernel_rfl
  obtain ⟨y0, e0⟩ : ∃ y, DataW.trod enc Try.prog w base spare held m 9 ((cs.drop 0).take (Try.prog.cellsOf 9)) = some y := hf 0 _ rfl
  rw [c1] at e0
  obtain ⟨y1, e1⟩ : ∃ y, DataW.trod enc Try.prog w base spare held m 45 ((cs.drop 1).take (Try.prog.cellsOf 45)) = some y := hf 1 _ rfl
  rw [c2] at e1
  obtain ⟨y2, e2⟩ : ∃ y, DataW.trod enc Try.prog w base spare held m 4 ((cs.drop 2).take (Try.prog.cellsOf 4)) = some y := hf 2 _ rfl
  rw [c3] at e2
  obtain ⟨a, wa, f0⟩ := rec_str Try.underlying9 _ _ _ e0
  obtain ⟨b, wb, f1⟩ := rec_bytes Try.underlying45 Try.underlying5 (by kernel_rfl) _ _ _ e1
  obtain ⟨c, wc, f2⟩ := rec_boolC Try.underlying4 _ _ _ e2
  refine ⟨⟨a, b, c⟩, wb, ?_⟩
  have h0 : cs = cs.drop 0 := rfl
  have hend : cs.drop (2 + 1) = [] := List.drop_of_length_le (by rw [hl, c4]; omega)
  rw [h0, drop_part cs 0 1 f0, drop_part cs (0 + 1) 1 f1, drop_part cs (0 + 1 + 1) 1 f2, show 0 + 1 + 1 + 1 = 2 + 1 by omega, hend]
  simp [ChV.cells, SlB.cells]
theorem rec_row {H : Type} {enc : TypeId × Value → H} {w : World} {base : Nat} {spare : Nat → Bool} {held : Bool} :
    Rec enc Try.prog w base spare held 105 (fun r : RwV => r.s.ok w.ph) RwV.cells := fun n cs x h => by
  obtain ⟨hl, m, hf⟩ := trod_fields Try.underlying105 h
  have c1 : Try.prog.cellsOf 9 = 1 := by kernel_rfl
  have c2 : Try.prog.cellsOf 45 = 1 := by kernel_rfl
  have c4 : Try.prog.cellsOf 105 = 2 := by kernel_rfl
  obtain ⟨y0, e0⟩ : ∃ y, DataW.trod enc Try.prog w base spare held m 9 ((cs.drop 0).take (Try.prog.cellsOf 9)) = some y := hf 0 _ rfl
  rw [c1] at e0
  obtain ⟨y1, e1⟩ : ∃ y, DataW.trod enc Try.prog w base spare held m 45 ((cs.drop 1).take (Try.prog.cellsOf 45)) = some y := hf 1 _ rfl
  rw [c2] at e1
  obtain ⟨a, wa, f0⟩ := rec_str Try.underlying9 _ _ _ e0
  obtain ⟨b, wb, f1⟩ := rec_bytes Try.underlying45 Try.underlying5 (by kernel_rfl) _ _ _ e1
  refine ⟨⟨a, b⟩, wb, ?_⟩
  have h0 : cs = cs.drop 0 := rfl
  have hend : cs.drop (1 + 1) = [] := List.drop_of_length_le (by rw [hl, c4]; omega)
  rw [h0, drop_part cs 0 1 f0, drop_part cs (0 + 1) 1 f1, show 0 + 1 + 1 = 1 + 1 by omega, hend]
  simp [RwV.cells, SlB.cells]
end Go.Proofs.Ytlckhaodecdbbaa
/-! What may be read of batches that are laid. -/
namespace Go.Proofs.Ytlckhaodecdbbaa
open Go.Cx
theorem rec_lay {H : Type} {enc : TypeId × Value → H} {w : World} {base : Nat} {spare : Nat → Bool} {held : Bool} :
    Rec enc Try.prog w base spare held 115 (fun r : LayV => r.s.ok w.ph) LayV.cells := fun n cs x h => by
  obtain ⟨hl, m, hf⟩ := trod_fields Try.underlying115 h
  have c1 : Try.prog.cellsOf 4 = 1 := by kernel_rfl
  have c2 : Try.prog.cellsOf 45 = 1 := by kernel_rfl
  have c4 : Try.prog.cellsOf 115 = 2 := by kernel_rfl
  obtain ⟨y0, e0⟩ : ∃ y, DataW.trod enc Try.prog w base spare held m 4 ((cs.drop 0).take (Try.prog.cellsOf 4)) = some y := hf 0 _ rfl
  rw [c1] at e0
  obtain ⟨y1, e1⟩ : ∃ y, DataW.trod enc Try.prog w base spare held m 45 ((cs.drop 1).take (Try.prog.cellsOf 45)) = some y := hf 1 _ rfl
  rw [c2] at e1
  obtain ⟨a, wa, f0⟩ := rec_boolC Try.underlying4 _ _ _ e0
  obtain ⟨b, wb, f1⟩ := rec_bytes Try.underlying45 Try.underlying5 (by kernel_rfl) _ _ _ e1
  refine ⟨⟨a, b⟩, wb, ?_⟩
  have h0 : cs = cs.drop 0 := rfl
  have hend : cs.drop (1 + 1) = [] := List.drop_of_length_le (by rw [hl, c4]; omega)
  rw [h0, drop_part cs 0 1 f0, drop_part cs (0 + 1) 1 f1, show 0 + 1 + 1 = 1 + 1 by omega, hend]
  simp [LayV.cells, SlB.cells]
end Go.Proofs.Ytlckhaodecdbbaa
/-! The statement JournalCuts, in the program. -/
namespace Go.Cx
/-- A journal on a disk at rest, the power to be cut at some step, or at none. -/
structure GoodC (n N : Nat) (D : DS) (J : JM) (bs : List Blk) : Prop where
  wf : D.wf N
  calm : Calm D
  len : D.sure.length = n
  js : JSt D.sure J bs
theorem GoodC.up {n N M : Nat} {D : DS} {J : JM} {bs : List Blk} (g : GoodC n N D J bs) (h : N ≤ M) : GoodC n M D J bs := ⟨wf_up g.wf h, g.calm, g.len, g.js⟩
/-- How laying a batch ends. -/
structure OutC (n N : Nat) (J : JM) (D : DS) (bs : List Blk) (r : Int) (J' : JM) (D' : DS) (bs' : List Blk) : Prop where
  wf : D'.wf N
  how : (r = 10 ∧ J' = J ∧ D' = D) ∨ (r = 0 ∧ J'.n = J.n + 1 ∧ GoodC n N D' J' bs') ∨
    (r = 9 ∧ D'.dark = true ∧ D'.sure.length = n ∧ ∀ picks, JSt (D'.crash picks).sure J bs ∨ ∃ Jn : JM, Jn.n = J.n + 1 ∧ JSt (D'.crash picks).sure Jn bs')
theorem Calm.arm {D : DS} (h : Calm D) (hl : 64 ≤ D.sure.length) (K : Nat) : D.arm (K : Int) = (0, { D with left := (K : Int) }) := by
  have := h.litAt (k := 0) (by omega)
  unfold DS.arm
  rw [show D.lit 0 = 0 from this]
  simp only [ne_eq, not_true_eq_false, if_false]
  rw [if_neg (by omega)]
theorem GoodC.arm {n N : Nat} {D : DS} {J : JM} {bs : List Blk} (g : GoodC n N D J bs) (K : Nat) (hK : K < 1000) : GoodC n N { D with left := (K : Int) } J bs := by
  have w := g.wf
  exact ⟨⟨w.lo, w.hi, w.wb, w.lb, by simp, by simp; omega, w.steps, w.loose⟩, ⟨g.calm.lit, g.calm.loose⟩, g.len, g.js⟩
theorem out_crash {n N : Nat} {D' : DS} {J : JM} {bs : List Blk} (w : D'.wf N) (hl : D'.sure.length = n) (picks : List Int) (j : JSt (D'.crash picks).sure J bs) : GoodC n N (D'.crash picks) J bs := by
  have ws := settle_wf w picks 0
  refine ⟨⟨ws.lo, ws.hi, ws.wb, ws.lb, by simp [DS.crash], by simp [DS.crash], ws.steps, ws.loose⟩, ⟨rfl, rfl⟩, ?_, j⟩
  show (settleL D'.sure picks 0 0 D'.loose).length = n
  rw [length_settleL]; exact hl
/-- Two lists of slices, in the same memory. -/
@[irreducible] def bs2A (a : Option Addr) (l : List SlB) (b : Option Addr) (k : List SlB) : Assn where
  ok h := bsAt a l h ∧ bsAt b k h
  mono := fun _ _ e h => ⟨bsAt_mono h.1 e, bsAt_mono h.2 e⟩
theorem bs2A_ok {a b : Option Addr} {l k : List SlB} {h : PH} : (bs2A a l b k).ok h ↔ bsAt a l h ∧ bsAt b k h := by
  unfold bs2A; exact Iff.rfl
theorem RdS_bs {L L' : List Assn} {a : Option Addr} {l : List SlB} (p : Pick (bsA a l) L L') : RdS L a (l.length * 1) (rows SlB.cells l) :=
  ⟨one_sl l, fun y hy => ⟨by rw [length_rows SlB.cells 1 l (fun _ _ => rfl)], by have := (bsA_ok.1 (p.ok hy)).1; unfold rdx at this; simpa using this⟩⟩
theorem bs2_of {a13 a17 : Option Addr} {ws ls : List SlB} {r : SlB} {c17 e e' : Nat} (hls : ∀ q ∈ ls, q ∈ ws) (k : PH) (s : (bsA a13 ws).ok k) (t : (own e 1 a17 (ls.length + 1) c17 (rows SlB.cells (ls ++ [r]))).ok k) (u : (own e' 1 r.a r.b.length r.c (cb r.b)).ok k) : (bs2A a13 ws a17 (ls ++ [r])).ok k := by
  have s' := bsA_ok.1 s
  refine bs2A_ok.2 ⟨s', ?_, fun q hq => ?_⟩
  · have := own_rdx t (one_sl _)
    rw [Nat.mul_one] at this
    rw [List.length_append, List.length_singleton]; exact this
  · rcases List.mem_append.1 hq with hq | hq
    · exact s'.2 q (hls q hq)
    · rw [List.mem_singleton.1 hq]; exact own_SlB u
end Go.Cx
namespace Go.Proofs.Ytlckhaodecdbbaa
open Go.Cx
attribute [local irreducible] Go.Cx.CX Go.Cx.CC Go.Cx.CQ Go.Cx.PS Go.Cx.Ctr Go.Cx.CH
set_option maxRecDepth 10000
theorem japp_out (p d : Nat) {n N : Nat} {D : DS} {J : JM} {bs : List Blk} (g : GoodC n N D J bs) (n2 : J.n ≤ 59) (hN : N < 900000) (b : Blk) (hb : b.length ≤ 1048576) (a : Option Addr) (cap : Nat) (hn : a = none → b.length = 0 ∧ cap = 0) :
    Ctr Try.prog 77 [.pointer (some ⟨p, 0, none⟩), .slice a b.length cap] [bk p 120 (jrc d J), disk d D] (fun x => rdx a b.length (cb b) x)
      (fun v M => ∃ r J' D', v = .int .i64 r ∧ M = [bk p 120 (jrc d J'), disk d D'] ∧ OutC n (N + 2060) J D bs r J' D' (bs ++ [b])) := by
  refine Ctr.conseq (japp_c p d J (by omega) g.js.may D g.wf (by omega) b (by omega) a cap hn) fun v M hv => ?_
  unfold DoneP at hv
  obtain ⟨rfl, rfl, hw⟩ := hv
  refine ⟨_, ⟨_, _, _, rfl, rfl, hw, ?_⟩, fun x h hs => hs⟩
  by_cases hr : J.h.blocks + (cutB b).length ≤ bankS D.sure
  · obtain ⟨e, o⟩ := (append_out g.js g.calm n2 hb).2 hr
    rw [e] at hw ⊢
    rcases lay_out g.js g.calm o with ⟨h1, h2, h3, h4, h5, -⟩ | ⟨h1, -, h2, h3, h4, h5⟩
    · exact .inr (.inl ⟨h1, by rw [h2], ⟨hw, h3, by rw [h4, g.len], by rw [h2]; exact h5⟩⟩)
    · exact .inr (.inr ⟨h1, h3, by rw [h4, g.len], fun picks => (h5 picks).imp id fun h => ⟨_, rfl, h⟩⟩)
  · have e := (append_out g.js g.calm n2 hb).1 (by omega)
    rw [e]
    exact .inl ⟨rfl, rfl, rfl⟩
theorem jrep_out (p d : Nat) {n N : Nat} {D : DS} {J : JM} {bs : List Blk} (g : GoodC n N D J bs) (n2 : J.n ≤ 59) (hN : N < 900000) (b : Blk) (hb : b.length ≤ 1048576) (a : Option Addr) (cap : Nat) (hn : a = none → b.length = 0 ∧ cap = 0) :
    Ctr Try.prog 76 [.pointer (some ⟨p, 0, none⟩), .slice a b.length cap] [bk p 120 (jrc d J), disk d D] (fun x => rdx a b.length (cb b) x)
      (fun v M => ∃ r J' D', v = .int .i64 r ∧ M = [bk p 120 (jrc d J'), disk d D'] ∧ OutC n (N + 2060) J D bs r J' D' [b]) := by
  refine Ctr.conseq (jrep_c p d J (by omega) g.js.may D g.wf (by omega) b (by omega) a cap hn) fun v M hv => ?_
  unfold DoneP at hv
  obtain ⟨rfl, rfl, hw⟩ := hv
  refine ⟨_, ⟨_, _, _, rfl, rfl, hw, ?_⟩, fun x h hs => hs⟩
  by_cases hr : (cutB b).length ≤ bankS D.sure
  · obtain ⟨e, o⟩ := (replace_out g.js g.calm n2 hb).2 hr
    rw [e] at hw ⊢
    rcases lay_out g.js g.calm o with ⟨h1, h2, h3, h4, h5, -⟩ | ⟨h1, -, h2, h3, h4, h5⟩
    · exact .inr (.inl ⟨h1, by rw [h2], ⟨hw, h3, by rw [h4, g.len], by rw [h2]; exact h5⟩⟩)
    · exact .inr (.inr ⟨h1, h3, by rw [h4, g.len], fun picks => (h5 picks).imp id fun h => ⟨_, rfl, h⟩⟩)
  · have e := (replace_out g.js g.calm n2 hb).1 (by omega)
    rw [e]
    exact .inl ⟨rfl, rfl, rfl⟩
theorem jbat_goC (p d : Nat) {n N : Nat} {D : DS} {J : JM} {bs : List Blk} (g : GoodC n N D J bs) (hN : N < 1000000) : Ctr Try.prog 75 [.pointer (some ⟨p, 0, none⟩)] [bk p 120 (jrc d J), disk d D] (fun _ => True)
    (fun v M => ∃ a c l, l.map SlB.b = bs ∧ v = .slice a l.length c ∧ M = [bk p 120 (jrc d J), disk d D, bsA a l]) := by
  obtain ⟨h1, h2, h3⟩ := bits_small g.js.may
  refine Ctr.conseq (jbat_c p d J h1 h2 h3 D g.wf hN) fun v M hv => ?_
  rw [g.js.read g.calm] at hv
  obtain ⟨a, c, l, hl, rfl, rfl, hn, hc⟩ := hv
  exact ⟨_, ⟨a, c, l, hl, rfl, rfl⟩, fun x h hs => hs⟩
theorem jopen_go (d : Nat) {n N : Nat} {D : DS} {J : JM} {bs : List Blk} (g : GoodC n N D J bs) (hN : N < 900000) : Ctr Try.prog 79 [.pointer (some ⟨d, 0, none⟩)] [disk d D] (fun _ => True)
    (fun v M => ∃ p, v = .tuple #[.pointer (some ⟨p, 0, none⟩), .int .i64 0] ∧ M = [bk p 120 (jrc d J), disk d D]) := by
  refine Ctr.conseq (jopen_c d D g.wf (by omega)) fun v M hv => ?_
  unfold OpenP at hv
  rw [g.js.opens g.calm] at hv
  obtain ⟨p, rfl, rfl⟩ := hv.2 rfl
  exact ⟨_, ⟨p, rfl, rfl⟩, fun x h hs => hs⟩
theorem cuts7_c (n : Nat) (hn : n < 256) (l : List LayV) (arms : Blk) (picks : List Int) (a : Option Addr) (c : Nat) (a2 : Option Addr) (c2 : Nat) (a3 : Option Addr) (c3 : Nat) :
    Ctr Try.prog 20 [.int .u8 (n : Int), .slice a l.length c, .slice a2 arms.length c2, .slice a3 picks.length c3] [] (fun x => lyAt a l x ∧ rdx a2 arms.length (cb arms) x ∧ rdx a3 picks.length (picks.map (Value.int .i64)) x) (fun v M => v = .bool true ∧ M = []) := by
  refine Ctr.intro Try.func20 rfl Try.ntmps20 rfl fun x w hp => ?_
  obtain ⟨hp, hp2, hp3⟩ := hp
  refine wk ?_
  refine CX.ps (PS.rem (z := ((n % 64 : Nat) : Int)) rfl rfl rfl (by decide) (tmod_nn (by omega))) ?_
  have hk : n % 64 < 64 := Nat.mod_lt _ (by omega)
  generalize n % 64 = k at hk ⊢
  refine wk ?_
  refine CX.callA (new_c ((64 : Int) + (k : Int))) ?_
  rw [show ((64 : Int) + (k : Int)).toNat = 64 + k by omega]
  rintro _ _ (⟨-, -, d, rfl, rfl⟩ | ⟨h, -, -⟩)
  rotate_left
  · omega
  refine wk ?_
  refine CX.callA (jmake_new d (64 + k) (by omega) (by omega)) ?_
  rintro _ _ ⟨p0, D0, rfl, rfl, g0⟩
  refine wk ?_
  refine CC.give (bsA none []) bs_nil ?_
  refine CC.loop (X := Nat × Nat × JM × DS × Option Addr × Nat × List SlB) (fun s => [(14, .int .i64 (s.1 : Int)), (1, .slice a l.length c), (2, .slice a2 arms.length c2), (3, .slice a3 picks.length c3), (9, .pointer (some ⟨d, 0, none⟩)), (11, .pointer (some ⟨s.2.1, 0, none⟩)), (13, .slice s.2.2.2.2.1 s.2.2.2.2.2.2.length s.2.2.2.2.2.1)])
    (fun s => [bk s.2.1 120 (jrc d s.2.2.1), disk d s.2.2.2.1, bsA s.2.2.2.2.1 s.2.2.2.2.2.2, exact x]) (fun s => s.1 ≤ 30 ∧ s.2.2.1.n ≤ s.1 + 1 ∧ GoodC (64 + k) (2060 + s.1 * 2060) s.2.2.2.1 s.2.2.1 (s.2.2.2.2.2.2.map SlB.b) ∧ s.2.2.2.2.2.2.length ≤ s.1 ∧ (s.2.2.2.2.1 = none → s.2.2.2.2.2.2.length = 0 ∧ s.2.2.2.2.2.1 = 0))
    (fun s => 30 - s.1) (0, p0, ⟨1, HdM.z⟩, D0, none, 0, []) ⟨Nat.zero_le _, Nat.le_refl _, ⟨g0.wf, g0.calm, g0.len, g0.js⟩, Nat.le_refl _, fun _ => ⟨rfl, rfl⟩⟩ ⟨rfl, rfl, rfl, rfl, rfl, rfl, rfl, trivial⟩ (by exact selA) ?_
  rintro ⟨i, p, J, D, a13, c13, ws⟩ ⟨hi, hJ, g, hwl, hwn⟩
  dsimp only at hi hJ g hwl hwn ⊢
  by_cases h1 : i < l.length ∧ i < 30
  rotate_left
  · have harm := g.calm.arm g.js.lo 0
    have g' := g.arm 0 (by omega)
    rw [show ((0 : Nat) : Int) = 0 from rfl] at harm g'
    by_cases h2 : i < l.length
    · have h3 : ¬ (i : Int) < 30 := by omega
      refine wk ?_
      (have cc := arm_c d D 0; simp only [harm] at cc; refine CX.callA cc ?_; clear cc; rintro _ _ ⟨rfl, rfl⟩)
      refine wk ?_
      refine CX.callA (jopen_go d g' (by omega)) ?_
      rintro _ _ ⟨p1, rfl, rfl⟩
      refine wk ?_
      refine CX.callA (jbat_goC p1 d g' (by omega)) ?_
      rintro _ _ ⟨a5, c5, l5, hl5, rfl, rfl⟩
      refine wk ?_
      refine CX.callA (r7same_c l5 ws (by have := congrArg List.length hl5; simp at this; omega) (by omega) a5 a13 c5 c13) ?_ (hpre := by exact fun y hy => ⟨bs_bsA (show Pick (bsA a5 l5) _ _ from by first | exact pickA | exact updA) y hy, bs_bsA (show Pick (bsA a13 ws) _ _ from by first | exact pickA | exact updA) y hy⟩)
      rw [decide_eq_true hl5]
      rintro _ _ ⟨rfl, rfl⟩
      refine wk ?_
      refine CX.callA (lives7_c) ?_
      rintro _ _ ⟨rfl, rfl⟩
      refine wk ?_
      ((apply CQ.end1; (· rfl); (· exact .tmp rfl)); (· exact ⟨rfl, rfl⟩); (· exact selA))
    · refine wk ?_
      (have cc := arm_c d D 0; simp only [harm] at cc; refine CX.callA cc ?_; clear cc; rintro _ _ ⟨rfl, rfl⟩)
      refine wk ?_
      refine CX.callA (jopen_go d g' (by omega)) ?_
      rintro _ _ ⟨p1, rfl, rfl⟩
      refine wk ?_
      refine CX.callA (jbat_goC p1 d g' (by omega)) ?_
      rintro _ _ ⟨a5, c5, l5, hl5, rfl, rfl⟩
      refine wk ?_
      refine CX.callA (r7same_c l5 ws (by have := congrArg List.length hl5; simp at this; omega) (by omega) a5 a13 c5 c13) ?_ (hpre := by exact fun y hy => ⟨bs_bsA (show Pick (bsA a5 l5) _ _ from by first | exact pickA | exact updA) y hy, bs_bsA (show Pick (bsA a13 ws) _ _ from by first | exact pickA | exact updA) y hy⟩)
      rw [decide_eq_true hl5]
      rintro _ _ ⟨rfl, rfl⟩
      refine wk ?_
      refine CX.callA (lives7_c) ?_
      rintro _ _ ⟨rfl, rfl⟩
      refine wk ?_
      ((apply CQ.end1; (· rfl); (· exact .tmp rfl)); (· exact ⟨rfl, rfl⟩); (· exact selA))
  obtain ⟨h1, h2⟩ := h1
  obtain ⟨ga, oa, rfl⟩ := lyAt_some hp (by omega)
  have hsok := hp.2 l[i] (List.getElem_mem h1)
  have hcA : ∀ {L L' : List Assn}, Pick (exact x) L L' → CellAt L ga (oa + i * 2 + 0) (.bool (l[i]).all) := fun pk => hp.cell pk h1 0 rfl
  have hcS : ∀ {L L' : List Assn}, Pick (exact x) L L' → CellAt L ga (oa + i * 2 + 1) (.slice (l[i]).s.a (l[i]).s.b.length (l[i]).s.c) := fun pk => hp.cell pk h1 1 rfl
  generalize l[i] = r at *
  have hmn : min r.s.b.length 2000 ≤ r.s.b.length := Nat.min_le_left _ _
  have hm3 : min r.s.b.length 2000 ≤ 2000 := Nat.min_le_right _ _
  have hmI : min (r.s.b.length : Int) 2000 = ((min r.s.b.length 2000 : Nat) : Int) := by omega
  have hle := hsok.le
  obtain ⟨hrd, hnil⟩ := cut_front hsok _ hmn
  have hblen : (r.s.b.take (min r.s.b.length 2000)).length = min r.s.b.length 2000 := by simp
  generalize min r.s.b.length 2000 = m at *
  generalize r.s.b.take m = B at *
  generalize ha' : cutAt r.s.a 0 r.s.c 1 = a' at *
  subst hblen
  refine wk ?_
  refine CC.draw [(0, 0), (1, 0), (2, 0), (3, 0), (4, 1), (5, 0), (6, 0), (7, 0), (8, 0), (9, 1), (10, 0), (11, 0), (12, 0), (13, 0)] mixed rfl (by kernel_rfl) (by kernel_rfl) [exact x] ?_
  refine hwk ?_
  refine CH.pure rfl (PS.indexAddr (j := i) rfl rfl rfl rfl h1) ?_
  refine hwk ?_
  (apply CH.read; (· rfl); (· apply PS.load (v := .slice r.s.a r.s.b.length r.s.c); (· rfl); (· rfl); (· exact hcS (by first | exact pickA | exact updA))); (· exact selA))
  refine hwk ?_
  refine CH.pure rfl (PS.indexAddr (j := i) rfl rfl rfl rfl h1) ?_
  refine hwk ?_
  (apply CH.read; (· rfl); (· apply PS.load (v := .slice r.s.a r.s.b.length r.s.c); (· rfl); (· rfl); (· exact hcS (by first | exact pickA | exact updA))); (· exact selA))
  refine hwk ?_
  refine CH.pure rfl (PS.front (h := B.length) rfl rfl rfl hmI (by omega)) ?_
  rw [ha']
  refine hwk ?_
  refine wk ?_
  refine CC.join (X := Nat) (fun K => [(16, .int .i64 (K : Int)), (15, .slice a' B.length r.s.c), (14, .int .i64 (i : Int)), (1, .slice (some ⟨ga, oa, none⟩) l.length c), (2, .slice a2 arms.length c2), (3, .slice a3 picks.length c3), (9, .pointer (some ⟨d, 0, none⟩)), (11, .pointer (some ⟨p, 0, none⟩)), (13, .slice a13 ws.length c13)])
    (fun _ => [bk p 120 (jrc d J), disk d D, bsA a13 ws, exact x]) (fun K => K < 32) ?_ ?_
  · by_cases h3 : i < arms.length
    · obtain ⟨g2, o2, rfl⟩ := rdx_some hp2 (by omega)
      have hl8 : arms[i].toNat < 256 := arms[i].toNat_lt
      refine wk ?_
      (refine CX.indexA (i) ?_ ?_; (· exact h3))
      (refine CX.loadA _ (CellAt.rd (j := i) (by first | exact pickA | exact updA) hp2 rfl h3) ?_)
      refine CX.ps (PS.rem (z := ((arms[i].toNat % 32 : Nat) : Int)) rfl rfl rfl (by decide) (tmod_nn (by omega))) ?_
      have hm32 : arms[i].toNat % 32 < 32 := Nat.mod_lt _ (by omega)
      generalize arms[i].toNat % 32 = K at hm32 ⊢
      refine wk ?_
      exact CQ.joined K hm32 ⟨rfl, rfl, rfl, rfl, rfl, rfl, rfl, rfl, rfl, trivial⟩ (by exact selA)
    · refine wk ?_
      exact CQ.joined 0 (by decide) ⟨rfl, rfl, rfl, rfl, rfl, rfl, rfl, rfl, rfl, trivial⟩ (by exact selA)
  intro K hK
  have harm := g.calm.arm g.js.lo K
  replace g := g.arm K (by omega)
  refine wk ?_
  (have cc := arm_c d D (K : Int); simp only [harm] at cc; refine CX.callA cc ?_; clear cc; rintro _ _ ⟨rfl, rfl⟩)
  clear harm
  generalize ({ sure := D.sure, loose := D.loose, left := (K : Int), steps := D.steps, dark := D.dark } : DS) = D1 at *
  refine wk ?_
  (refine CX.indexA (i) ?_ ?_; (· exact h1))
  refine wk ?_
  (apply CX.ps; (· apply PS.load (v := .bool r.all); (· rfl); (· rfl); (· exact hcA (by first | exact pickA | exact updA))))
  refine wk ?_
  refine CC.join (X := Option Addr × Nat × List SlB × Int × JM × DS) (fun s => [(17, .slice s.1 s.2.2.1.length s.2.1), (18, .int .i64 s.2.2.2.1), (15, .slice a' B.length r.s.c), (14, .int .i64 (i : Int)), (1, .slice (some ⟨ga, oa, none⟩) l.length c), (2, .slice a2 arms.length c2), (3, .slice a3 picks.length c3), (9, .pointer (some ⟨d, 0, none⟩)), (11, .pointer (some ⟨p, 0, none⟩)), (13, .slice a13 ws.length c13)])
    (fun s => [own 45 1 s.1 s.2.2.1.length s.2.1 (rows SlB.cells s.2.2.1), bk p 120 (jrc d s.2.2.2.2.1), disk d s.2.2.2.2.2, bsA a13 ws, exact x])
    (fun s => (∀ q ∈ s.2.2.1, q ∈ ws) ∧ s.2.2.1.length ≤ ws.length ∧ OutC (64 + k) (2060 + i * 2060 + 2060) J D1 (ws.map SlB.b) s.2.2.2.1 s.2.2.2.2.1 s.2.2.2.2.2 (s.2.2.1.map SlB.b ++ [B])) ?_ ?_
  · cases hall : r.all with
    | true =>
      refine wk ?_
      refine CX.callA (jrep_out p d g (by omega) (by omega) B (by omega) a' r.s.c hnil) ?_ (hpre := by exact rdx_ex (by first | exact pickA | exact updA) hrd)
      rintro _ _ ⟨rr, J', D', rfl, rfl, ho⟩
      refine wk ?_
      refine CQ.ownNil 45 1 ?_
      exact CQ.joined (none, 0, [], rr, J', D') ⟨fun q hq => (by cases hq), Nat.zero_le _, ho⟩ ⟨rfl, rfl, rfl, rfl, rfl, rfl, rfl, rfl, rfl, rfl, trivial⟩ (by exact selA)
    | false =>
      refine CC.ownNil 45 1 ?_
      refine wk ?_
      refine CX.append (m := ws.length) (news := rows SlB.cells ws) rfl rfl rfl (by first | exact pickA | exact updA) (RdS_bs (by first | exact pickA | exact updA)) (by omega) hwn ?_
      intro a17 c17
      rw [Nat.zero_add, List.nil_append]
      refine wk ?_
      refine CX.callA (japp_out p d g (by omega) (by omega) B (by omega) a' r.s.c hnil) ?_ (hpre := by exact rdx_ex (by first | exact pickA | exact updA) hrd)
      rintro _ _ ⟨rr, J', D', rfl, rfl, ho⟩
      refine wk ?_
      exact CQ.joined (a17, c17, ws, rr, J', D') ⟨fun q hq => hq, Nat.le_refl _, ho⟩ ⟨rfl, rfl, rfl, rfl, rfl, rfl, rfl, rfl, rfl, rfl, trivial⟩ (by exact selA)
  rintro ⟨a17, c17, ls, rr, J', D'⟩ ⟨hls, hlw, ho⟩
  dsimp only at hls hlw ho ⊢
  refine wk ?_
  refine CX.callA (r0copy_c B (by omega) a' r.s.c hnil) ?_ (hpre := by exact rdx_ex (by first | exact pickA | exact updA) hrd)
  rintro _ _ ⟨ab, cb', rfl, rfl⟩
  refine wk ?_
  refine CX.buildSl (parts := [(0, _)]) (vs := [(0, .slice ab B.length cb')]) (out := [.slice ab B.length cb']) rfl rfl (by decide) (by simp [fillL, Value.cells, setL]) fun bq => ?_
  refine CX.append (m := 1) (news := [.slice ab B.length cb']) rfl rfl rfl (by first | exact pickA | exact updA) (RdS.pick (b := bq) (o := 0) (by first | exact pickA | exact updA) rfl (one_all rfl) rfl) (by omega) (fun h => by cases h) ?_
  intro a18 c18
  have hrw : rows SlB.cells ls ++ [.slice ab B.length cb'] = rows SlB.cells (ls ++ [⟨ab, B, cb'⟩]) := by rw [rows_append]; rfl
  rw [hrw]
  refine CX.fact (own_none (e := 45) (sz := 1) (by first | exact pickA | exact updA)) ?_
  rintro ⟨hn18, -, -⟩
  refine CX.merge3 (bs2A a13 ws a18 (ls ++ [⟨ab, B, cb'⟩])) (bs2_of (e' := 5) hls) ?_
  have hkm : (ls ++ [(⟨ab, B, cb'⟩ : SlB)]).map SlB.b = ls.map SlB.b ++ [B] := by simp
  have hkl : (ls ++ [(⟨ab, B, cb'⟩ : SlB)]).length = ls.length + 1 := by simp
  rw [← hkm] at ho
  rw [← hkl] at hn18 ⊢
  generalize ls ++ [(⟨ab, B, cb'⟩ : SlB)] = ks at *
  have hkn : ks.length ≤ i + 1 := by omega
  rcases ho.how with ⟨rfl, rfl, rfl⟩ | ⟨rfl, hJn, g'⟩ | ⟨rfl, hdk, hlen, hcr⟩
  · have hlit := g.calm.lit
    refine wk ?_
    (have cc := dark_c d D'; simp only [hlit] at cc; refine CX.callA cc ?_; clear cc; rintro _ _ ⟨rfl, rfl⟩)
    (refine CX.ps (PS.neqBool false ?_ Try.underlying4 rfl rfl rfl) ?_; (· rfl))
    refine wk ?_
    refine CX.callA (jbat_goC p d g (by omega)) ?_
    rintro _ _ ⟨a5, c5, l5, hl5, rfl, rfl⟩
    refine wk ?_
    refine CX.callA (r7same_c l5 ws (by have := congrArg List.length hl5; simp at this; omega) (by omega) a5 a13 c5 c13) ?_ (hpre := by exact fun y hy => ⟨bs_bsA (show Pick (bsA a5 l5) _ _ from by first | exact pickA | exact updA) y hy, (bs2A_ok.1 (Pick.ok (show Pick (bs2A a13 ws a18 ks) _ _ from by first | exact pickA | exact updA) hy)).1⟩)
    rw [decide_eq_true hl5]
    rintro _ _ ⟨rfl, rfl⟩
    refine wk ?_
    refine CQ.turn (bsA a13 ws) (fun _ s => bsA_ok.2 (bs2A_ok.1 s).1) ?_
    exact CQ.round (x := (i, p, J', D, a13, c13, ws)) (i + 1, p, J', D', a13, c13, ws) ⟨by dsimp only; omega, by dsimp only; omega, g.up (by omega), by dsimp only; omega, hwn⟩ (by dsimp only; omega) ⟨eqI (by omega), rfl, rfl, rfl, rfl, rfl, rfl, trivial⟩ (by exact selA)
  · have hlit := g'.calm.lit
    refine wk ?_
    (have cc := dark_c d D'; simp only [hlit] at cc; refine CX.callA cc ?_; clear cc; rintro _ _ ⟨rfl, rfl⟩)
    (refine CX.ps (PS.neqBool false ?_ Try.underlying4 rfl rfl rfl) ?_; (· rfl))
    refine wk ?_
    refine CX.callA (jbat_goC p d g' (by omega)) ?_
    rintro _ _ ⟨a5, c5, l5, hl5, rfl, rfl⟩
    refine wk ?_
    refine CX.callA (r7same_c l5 ks (by have := congrArg List.length hl5; simp at this; omega) (by omega) a5 a18 c5 c18) ?_ (hpre := by exact fun y hy => ⟨bs_bsA (show Pick (bsA a5 l5) _ _ from by first | exact pickA | exact updA) y hy, (bs2A_ok.1 (Pick.ok (show Pick (bs2A a13 ws a18 ks) _ _ from by first | exact pickA | exact updA) hy)).2⟩)
    rw [decide_eq_true hl5]
    rintro _ _ ⟨rfl, rfl⟩
    refine wk ?_
    refine CQ.turn (bsA a18 ks) (fun _ s => bsA_ok.2 (bs2A_ok.1 s).2) ?_
    exact CQ.round (x := (i, p, J, D, a13, c13, ws)) (i + 1, p, J', D', a18, c18, ks) ⟨by dsimp only; omega, by dsimp only; omega, g'.up (by omega), by dsimp only; omega, hn18⟩ (by dsimp only; omega) ⟨eqI (by omega), rfl, rfl, rfl, rfl, rfl, rfl, trivial⟩ (by exact selA)
  · obtain ⟨Jx, bx, gx, hJx, hbx⟩ : ∃ Jx bx, GoodC (64 + k) (2060 + i * 2060 + 2060) (D'.crash picks) Jx bx ∧ Jx.n ≤ i + 2 ∧ (bx = ws.map SlB.b ∨ bx = ks.map SlB.b) := by
      rcases hcr picks with hj | ⟨Jn, hj1, hj2⟩
      · exact ⟨J, _, out_crash ho.wf hlen picks hj, by omega, .inl rfl⟩
      · exact ⟨Jn, _, out_crash ho.wf hlen picks hj2, by omega, .inr rfl⟩
    have hbl : bx.length ≤ 100 := by
      rcases hbx with e | e <;> rw [e, List.length_map] <;> omega
    refine wk ?_
    (have cc := dark_c d D'; simp only [hdk] at cc; refine CX.callA cc ?_; clear cc; rintro _ _ ⟨rfl, rfl⟩)
    (refine CX.ps (PS.neqBool false ?_ Try.underlying4 rfl rfl rfl) ?_; (· rfl))
    refine wk ?_
    refine CX.callA (crash_c d D' picks a3 c3 ho.wf (by omega)) ?_ (hpre := by exact rdx_ex (by first | exact pickA | exact updA) hp3)
    rintro _ _ ⟨rfl, rfl⟩
    generalize D'.crash picks = D2 at *
    refine wk ?_
    refine CX.callA (jopen_go d gx (by omega)) ?_
    rintro _ _ ⟨p1, rfl, rfl⟩
    refine wk ?_
    refine CX.callA (jbat_goC p1 d gx (by omega)) ?_
    rintro _ _ ⟨a5, c5, l5, hl5, rfl, rfl⟩
    refine wk ?_
    refine CX.callA (r7same_c l5 ws (by have := congrArg List.length hl5; simp at this; omega) (by omega) a5 a13 c5 c13) ?_ (hpre := by exact fun y hy => ⟨bs_bsA (show Pick (bsA a5 l5) _ _ from by first | exact pickA | exact updA) y hy, (bs2A_ok.1 (Pick.ok (show Pick (bs2A a13 ws a18 ks) _ _ from by first | exact pickA | exact updA) hy)).1⟩)
    by_cases hbw : bx = ws.map SlB.b
    · rw [decide_eq_true (hl5.trans hbw)]
      rintro _ _ ⟨rfl, rfl⟩
      subst hbw
      refine wk ?_
      refine CQ.turn (bsA a13 ws) (fun _ s => bsA_ok.2 (bs2A_ok.1 s).1) ?_
      exact CQ.round (x := (i, p, J, D, a13, c13, ws)) (i + 1, p1, Jx, D2, a13, c13, ws) ⟨by dsimp only; omega, by dsimp only; omega, gx.up (by omega), by dsimp only; omega, hwn⟩ (by dsimp only; omega) ⟨eqI (by omega), rfl, rfl, rfl, rfl, rfl, rfl, trivial⟩ (by exact selA)
    · rw [decide_eq_false fun e => hbw (hl5.symm.trans e)]
      rintro _ _ ⟨rfl, rfl⟩
      obtain rfl : bx = ks.map SlB.b := hbx.resolve_left hbw
      refine wk ?_
      refine CX.callA (jbat_goC p1 d gx (by omega)) ?_
      rintro _ _ ⟨a6, c6, l6, hl6, rfl, rfl⟩
      refine wk ?_
      refine CX.callA (r7same_c l6 ks (by have := congrArg List.length hl6; simp at this; omega) (by omega) a6 a18 c6 c18) ?_ (hpre := by exact fun y hy => ⟨bs_bsA (show Pick (bsA a6 l6) _ _ from by first | exact pickA | exact updA) y hy, (bs2A_ok.1 (Pick.ok (show Pick (bs2A a13 ws a18 ks) _ _ from by first | exact pickA | exact updA) hy)).2⟩)
      rw [decide_eq_true hl6]
      rintro _ _ ⟨rfl, rfl⟩
      refine wk ?_
      refine CQ.turn (bsA a18 ks) (fun _ s => bsA_ok.2 (bs2A_ok.1 s).2) ?_
      exact CQ.round (x := (i, p, J, D, a13, c13, ws)) (i + 1, p1, Jx, D2, a18, c18, ks) ⟨by dsimp only; omega, by dsimp only; omega, gx.up (by omega), by dsimp only; omega, hn18⟩ (by dsimp only; omega) ⟨eqI (by omega), rfl, rfl, rfl, rfl, rfl, rfl, trivial⟩ (by exact selA)
end Go.Proofs.Ytlckhaodecdbbaa
