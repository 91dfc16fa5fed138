/- Part K4: Bx, Mg, He, Sd, Jm, Jc, Cp, Sg, Hd, Hg. -/
import Derived.Test.YtlckhaodecdbbaaK3
import Derived.Test.YtlckhaodecdbbaaK2
import Derived.Laws.StructEq
set_option linter.unusedVariables false
set_option linter.unusedSimpArgs false
/-! Are changes, or rows, the same (ref 00), in the program. Printed by bx.py (wip). -/
namespace Go.Proofs.Ytlckhaodecdbbaa
open Go.Cx
attribute [local irreducible] Go.Cx.CX Go.Cx.CC Go.Cx.CQ Go.Cx.PS Go.Cx.Ctr Go.Cx.CH
set_option maxRecDepth 10000
theorem eqmC_c (l k : List ChV) (hl : l.length ≤ 9223372036854775806) (a b : Option Addr) (ca cb' : Nat) (hkl : k.length ≤ 9223372036854775806) : Ctr Try.prog 64 [.slice a l.length ca, .slice b k.length cb'] [] (fun x => chAt a l x ∧ chAt b k x) (fun v M => v = .bool (decide (l.map ChV.m = k.map ChV.m)) ∧ M = []) := by
  refine Ctr.intro Try.func64 rfl Try.ntmps64 rfl fun x w hp => ?_
  by_cases hn : l.length = k.length
  · refine wk ?_
    refine CC.loop (X := Nat) (fun i => [(5, .int .i64 (i : Int)), (0, .slice a l.length ca), (1, .slice b k.length cb')]) (fun i => [exact x]) (fun i => i ≤ l.length ∧ ∀ j (h : j < l.length) (h' : j < k.length), j < i → (l[j]).m = (k[j]).m) (fun i => l.length - i) 0 ⟨Nat.zero_le _, fun j h h' h0 => by omega⟩ ⟨rfl, rfl, rfl, trivial⟩ (by exact selA) ?_
    rintro i ⟨hi, hpre⟩
    by_cases h1 : i < l.length
    · have h2 : i < k.length := by omega
      obtain ⟨g, off, rfl⟩ := chAt_some hp.1 (by omega)
      obtain ⟨g', off', rfl⟩ := chAt_some hp.2 (by omega)
      have hr := hp.1.2 l[i] (List.getElem_mem h1)
      have hr' := hp.2.2 k[i] (List.getElem_mem h2)
      have eat : l.map ChV.m = k.map ChV.m → ∀ j (h : j < l.length) (h' : j < k.length), (l[j]).m = (k[j]).m := fun e j h h' => by
        have := congrArg (fun z => z[j]?) e
        simpa [h, h'] using this
      by_cases hk : (l[i]).key = (k[i]).key
      rotate_left
      · have hne : (l[i]).m ≠ (k[i]).m := fun e => hk (congrArg ChM.key e)
        refine wk ?_
        refine CC.draw [(0, 0), (1, 0), (2, 0), (3, 0), (4, 1), (5, 0), (6, 0), (7, 0), (8, 0), (9, 1), (10, 0), (11, 0), (12, 0), (13, 0), (14, 0), (15, 0), (16, 1), (17, 0), (18, 0), (19, 0), (20, 0), (21, 1), (22, 0), (23, 0), (24, 0), (25, 0), (26, 0), (27, 0), (28, 0), (29, 1), (30, 0), (31, 0), (32, 0), (33, 0), (34, 1), (35, 2), (36, 0), (37, 0)] mixed rfl (by kernel_rfl) (by kernel_rfl) [exact x] ?_
        refine hwk ?_
        refine CH.pure rfl (PS.indexAddr (j := i) rfl rfl rfl rfl (by omega)) ?_
        refine hwk ?_
        (apply CH.read; (· rfl); (· apply PS.load (v := sv (l[i]).key); (· rfl); (· rfl); (· exact hp.1.cell (by first | exact pickA | exact updA) h1 0 rfl)); (· exact selA))
        refine hwk ?_
        refine CH.pure rfl (PS.indexAddr (j := i) rfl rfl rfl rfl (by omega)) ?_
        refine hwk ?_
        (apply CH.read; (· rfl); (· apply PS.load (v := sv (k[i]).key); (· rfl); (· rfl); (· exact hp.2.cell (by first | exact pickA | exact updA) h2 0 rfl)); (· exact selA))
        refine CH.pure rfl ((PS.neqStr (a := (l[i]).key) (b := (k[i]).key) rfl rfl rfl).toT hk) ?_
        refine hwk ?_
        refine wk ?_
        ((apply CQ.end1; (· rfl); (· exact .tmp rfl)); (· exact ⟨by rw [decide_eq_false fun e => hne (eat e i h1 h2)], rfl⟩); (· exact selA))
      by_cases hg : (l[i]).gone = (k[i]).gone
      rotate_left
      · have hne : (l[i]).m ≠ (k[i]).m := fun e => hg (congrArg ChM.gone e)
        refine wk ?_
        refine CC.draw [(0, 0), (1, 0), (2, 0), (3, 0), (4, 1), (5, 0), (6, 0), (7, 0), (8, 0), (9, 1), (10, 0), (11, 0), (12, 0), (13, 0), (14, 0), (15, 0), (16, 1), (17, 0), (18, 0), (19, 0), (20, 0), (21, 1), (22, 0), (23, 0), (24, 0), (25, 0), (26, 0), (27, 0), (28, 0), (29, 1), (30, 0), (31, 0), (32, 0), (33, 0), (34, 1), (35, 2), (36, 0), (37, 0)] mixed rfl (by kernel_rfl) (by kernel_rfl) [exact x] ?_
        refine hwk ?_
        refine CH.pure rfl (PS.indexAddr (j := i) rfl rfl rfl rfl (by omega)) ?_
        refine hwk ?_
        (apply CH.read; (· rfl); (· apply PS.load (v := sv (l[i]).key); (· rfl); (· rfl); (· exact hp.1.cell (by first | exact pickA | exact updA) h1 0 rfl)); (· exact selA))
        refine hwk ?_
        refine CH.pure rfl (PS.indexAddr (j := i) rfl rfl rfl rfl (by omega)) ?_
        refine hwk ?_
        (apply CH.read; (· rfl); (· apply PS.load (v := sv (k[i]).key); (· rfl); (· rfl); (· exact hp.2.cell (by first | exact pickA | exact updA) h2 0 rfl)); (· exact selA))
        refine CH.pure rfl ((PS.neqStr (a := (l[i]).key) (b := (k[i]).key) rfl rfl rfl).toF (fun h => h hk)) ?_
        refine hwk ?_
        refine CH.pure rfl (PS.indexAddr (j := i) rfl rfl rfl rfl (by omega)) ?_
        refine hwk ?_
        (apply CH.read; (· rfl); (· apply PS.load (v := .bool (l[i]).gone); (· rfl); (· rfl); (· exact hp.1.cell (by first | exact pickA | exact updA) h1 2 rfl)); (· exact selA))
        refine hwk ?_
        refine CH.pure rfl (PS.indexAddr (j := i) rfl rfl rfl rfl (by omega)) ?_
        refine hwk ?_
        (apply CH.read; (· rfl); (· apply PS.load (v := .bool (k[i]).gone); (· rfl); (· rfl); (· exact hp.2.cell (by first | exact pickA | exact updA) h2 2 rfl)); (· exact selA))
        refine CH.pure rfl (PS.neqBool true (by simpa using hg) Try.underlying4 rfl rfl rfl) ?_
        refine hwk ?_
        refine wk ?_
        ((apply CQ.end1; (· rfl); (· exact .tmp rfl)); (· exact ⟨by rw [decide_eq_false fun e => hne (eat e i h1 h2)], rfl⟩); (· exact selA))
      by_cases hb : (l[i]).s.b = (k[i]).s.b
      rotate_left
      · have hne : (l[i]).m ≠ (k[i]).m := fun e => hb (congrArg ChM.val e)
        refine wk ?_
        refine CC.draw [(0, 0), (1, 0), (2, 0), (3, 0), (4, 1), (5, 0), (6, 0), (7, 0), (8, 0), (9, 1), (10, 0), (11, 0), (12, 0), (13, 0), (14, 0), (15, 0), (16, 1), (17, 0), (18, 0), (19, 0), (20, 0), (21, 1), (22, 0), (23, 0), (24, 0), (25, 0), (26, 0), (27, 0), (28, 0), (29, 1), (30, 0), (31, 0), (32, 0), (33, 0), (34, 1), (35, 2), (36, 0), (37, 0)] mixed rfl (by kernel_rfl) (by kernel_rfl) [exact x] ?_
        refine hwk ?_
        refine CH.pure rfl (PS.indexAddr (j := i) rfl rfl rfl rfl (by omega)) ?_
        refine hwk ?_
        (apply CH.read; (· rfl); (· apply PS.load (v := sv (l[i]).key); (· rfl); (· rfl); (· exact hp.1.cell (by first | exact pickA | exact updA) h1 0 rfl)); (· exact selA))
        refine hwk ?_
        refine CH.pure rfl (PS.indexAddr (j := i) rfl rfl rfl rfl (by omega)) ?_
        refine hwk ?_
        (apply CH.read; (· rfl); (· apply PS.load (v := sv (k[i]).key); (· rfl); (· rfl); (· exact hp.2.cell (by first | exact pickA | exact updA) h2 0 rfl)); (· exact selA))
        refine CH.pure rfl ((PS.neqStr (a := (l[i]).key) (b := (k[i]).key) rfl rfl rfl).toF (fun h => h hk)) ?_
        refine hwk ?_
        refine CH.pure rfl (PS.indexAddr (j := i) rfl rfl rfl rfl (by omega)) ?_
        refine hwk ?_
        (apply CH.read; (· rfl); (· apply PS.load (v := .bool (l[i]).gone); (· rfl); (· rfl); (· exact hp.1.cell (by first | exact pickA | exact updA) h1 2 rfl)); (· exact selA))
        refine hwk ?_
        refine CH.pure rfl (PS.indexAddr (j := i) rfl rfl rfl rfl (by omega)) ?_
        refine hwk ?_
        (apply CH.read; (· rfl); (· apply PS.load (v := .bool (k[i]).gone); (· rfl); (· rfl); (· exact hp.2.cell (by first | exact pickA | exact updA) h2 2 rfl)); (· exact selA))
        refine CH.pure rfl (PS.neqBool false (by simp [hg]) Try.underlying4 rfl rfl rfl) ?_
        refine hwk ?_
        refine CH.pure rfl (PS.indexAddr (j := i) rfl rfl rfl rfl (by omega)) ?_
        refine hwk ?_
        (apply CH.read; (· rfl); (· apply PS.load (v := .slice (l[i]).s.a (l[i]).s.b.length (l[i]).s.c); (· rfl); (· rfl); (· exact hp.1.cell (by first | exact pickA | exact updA) h1 1 rfl)); (· exact selA))
        refine hwk ?_
        refine CH.pure rfl (PS.indexAddr (j := i) rfl rfl rfl rfl (by omega)) ?_
        refine hwk ?_
        (apply CH.read; (· rfl); (· apply PS.load (v := .slice (k[i]).s.a (k[i]).s.b.length (k[i]).s.c); (· rfl); (· rfl); (· exact hp.2.cell (by first | exact pickA | exact updA) h2 1 rfl)); (· exact selA))
        refine CH.chain rfl fun K hK => ?_
        refine CX.callA (same_c (l[i]).s.b (k[i]).s.b (l[i]).s.a (k[i]).s.a (l[i]).s.c (k[i]).s.c) ?_ (hpre := by exact fun y hy => ⟨rdx_ex (show Pick (exact x) _ _ from by first | exact pickA | exact updA) hr.r y hy, rdx_ex (show Pick (exact x) _ _ from by first | exact pickA | exact updA) hr'.r y hy⟩)
        rw [decide_eq_false hb]
        rintro _ _ ⟨rfl, rfl⟩
        (refine CX.nil ?_; refine CQ.thenK ?_; apply hK; (· exact selA); clear hK K)
        refine hwk ?_
        refine wk ?_
        ((apply CQ.end1; (· rfl); (· exact .tmp rfl)); (· exact ⟨by rw [decide_eq_false fun e => hne (eat e i h1 h2)], rfl⟩); (· exact selA))
      · have heq : (l[i]).m = (k[i]).m := by unfold ChV.m; rw [hk, hb, hg]
        refine wk ?_
        refine CC.draw [(0, 0), (1, 0), (2, 0), (3, 0), (4, 1), (5, 0), (6, 0), (7, 0), (8, 0), (9, 1), (10, 0), (11, 0), (12, 0), (13, 0), (14, 0), (15, 0), (16, 1), (17, 0), (18, 0), (19, 0), (20, 0), (21, 1), (22, 0), (23, 0), (24, 0), (25, 0), (26, 0), (27, 0), (28, 0), (29, 1), (30, 0), (31, 0), (32, 0), (33, 0), (34, 1), (35, 2), (36, 0), (37, 0)] mixed rfl (by kernel_rfl) (by kernel_rfl) [exact x] ?_
        refine hwk ?_
        refine CH.pure rfl (PS.indexAddr (j := i) rfl rfl rfl rfl (by omega)) ?_
        refine hwk ?_
        (apply CH.read; (· rfl); (· apply PS.load (v := sv (l[i]).key); (· rfl); (· rfl); (· exact hp.1.cell (by first | exact pickA | exact updA) h1 0 rfl)); (· exact selA))
        refine hwk ?_
        refine CH.pure rfl (PS.indexAddr (j := i) rfl rfl rfl rfl (by omega)) ?_
        refine hwk ?_
        (apply CH.read; (· rfl); (· apply PS.load (v := sv (k[i]).key); (· rfl); (· rfl); (· exact hp.2.cell (by first | exact pickA | exact updA) h2 0 rfl)); (· exact selA))
        refine CH.pure rfl ((PS.neqStr (a := (l[i]).key) (b := (k[i]).key) rfl rfl rfl).toF (fun h => h hk)) ?_
        refine hwk ?_
        refine CH.pure rfl (PS.indexAddr (j := i) rfl rfl rfl rfl (by omega)) ?_
        refine hwk ?_
        (apply CH.read; (· rfl); (· apply PS.load (v := .bool (l[i]).gone); (· rfl); (· rfl); (· exact hp.1.cell (by first | exact pickA | exact updA) h1 2 rfl)); (· exact selA))
        refine hwk ?_
        refine CH.pure rfl (PS.indexAddr (j := i) rfl rfl rfl rfl (by omega)) ?_
        refine hwk ?_
        (apply CH.read; (· rfl); (· apply PS.load (v := .bool (k[i]).gone); (· rfl); (· rfl); (· exact hp.2.cell (by first | exact pickA | exact updA) h2 2 rfl)); (· exact selA))
        refine CH.pure rfl (PS.neqBool false (by simp [hg]) Try.underlying4 rfl rfl rfl) ?_
        refine hwk ?_
        refine CH.pure rfl (PS.indexAddr (j := i) rfl rfl rfl rfl (by omega)) ?_
        refine hwk ?_
        (apply CH.read; (· rfl); (· apply PS.load (v := .slice (l[i]).s.a (l[i]).s.b.length (l[i]).s.c); (· rfl); (· rfl); (· exact hp.1.cell (by first | exact pickA | exact updA) h1 1 rfl)); (· exact selA))
        refine hwk ?_
        refine CH.pure rfl (PS.indexAddr (j := i) rfl rfl rfl rfl (by omega)) ?_
        refine hwk ?_
        (apply CH.read; (· rfl); (· apply PS.load (v := .slice (k[i]).s.a (k[i]).s.b.length (k[i]).s.c); (· rfl); (· rfl); (· exact hp.2.cell (by first | exact pickA | exact updA) h2 1 rfl)); (· exact selA))
        refine CH.chain rfl fun K hK => ?_
        refine CX.callA (same_c (l[i]).s.b (k[i]).s.b (l[i]).s.a (k[i]).s.a (l[i]).s.c (k[i]).s.c) ?_ (hpre := by exact fun y hy => ⟨rdx_ex (show Pick (exact x) _ _ from by first | exact pickA | exact updA) hr.r y hy, rdx_ex (show Pick (exact x) _ _ from by first | exact pickA | exact updA) hr'.r y hy⟩)
        rw [decide_eq_true hb]
        rintro _ _ ⟨rfl, rfl⟩
        (refine CX.nil ?_; refine CQ.thenK ?_; apply hK; (· exact selA); clear hK K)
        refine hwk ?_
        refine wk ?_
        exact CQ.round (i + 1) ⟨by omega, fun j h h' h0 => by
          by_cases e : j < i
          · exact hpre j h h' e
          · obtain rfl : j = i := by omega
            exact heq⟩ (by omega) ⟨eqI (by omega), rfl, rfl, trivial⟩ (by exact selA)
    · obtain rfl : i = l.length := by omega
      have e : l.map ChV.m = k.map ChV.m := List.ext_getElem (by simpa using hn) fun j h h' => by simpa using hpre j (by simpa using h) (by simpa using h') (by simpa using h)
      refine wk ?_
      ((apply CQ.end1; (· rfl); (· exact .tmp rfl)); (· exact ⟨by rw [decide_eq_true e], rfl⟩); (· exact selA))
  · have e : l.map ChV.m ≠ k.map ChV.m := fun h => hn (by simpa using congrArg List.length h)
    refine wk ?_
    ((apply CQ.end1; (· rfl); (· exact .tmp rfl)); (· exact ⟨by rw [decide_eq_false e], rfl⟩); (· exact selA))
theorem eqmR_c (l k : List RwV) (hl : l.length ≤ 9223372036854775806) (a b : Option Addr) (ca cb' : Nat) (hkl : k.length ≤ 9223372036854775806) : Ctr Try.prog 71 [.slice a l.length ca, .slice b k.length cb'] [] (fun x => rwAt a l x ∧ rwAt b k x) (fun v M => v = .bool (decide (l.map RwV.m = k.map RwV.m)) ∧ M = []) := by
  refine Ctr.intro Try.func71 rfl Try.ntmps71 rfl fun x w hp => ?_
  by_cases hn : l.length = k.length
  · refine wk ?_
    refine CC.loop (X := Nat) (fun i => [(5, .int .i64 (i : Int)), (0, .slice a l.length ca), (1, .slice b k.length cb')]) (fun i => [exact x]) (fun i => i ≤ l.length ∧ ∀ j (h : j < l.length) (h' : j < k.length), j < i → (l[j]).m = (k[j]).m) (fun i => l.length - i) 0 ⟨Nat.zero_le _, fun j h h' h0 => by omega⟩ ⟨rfl, rfl, rfl, trivial⟩ (by exact selA) ?_
    rintro i ⟨hi, hpre⟩
    by_cases h1 : i < l.length
    · have h2 : i < k.length := by omega
      obtain ⟨g, off, rfl⟩ := rwAt_some hp.1 (by omega)
      obtain ⟨g', off', rfl⟩ := rwAt_some hp.2 (by omega)
      have hr := hp.1.2 l[i] (List.getElem_mem h1)
      have hr' := hp.2.2 k[i] (List.getElem_mem h2)
      have eat : l.map RwV.m = k.map RwV.m → ∀ j (h : j < l.length) (h' : j < k.length), (l[j]).m = (k[j]).m := fun e j h h' => by
        have := congrArg (fun z => z[j]?) e
        simpa [h, h'] using this
      by_cases hk : (l[i]).key = (k[i]).key
      rotate_left
      · have hne : (l[i]).m ≠ (k[i]).m := fun e => hk (congrArg Prod.fst e)
        refine wk ?_
        refine CC.draw [(0, 0), (1, 0), (2, 0), (3, 0), (4, 1), (5, 0), (6, 0), (7, 0), (8, 0), (9, 1), (10, 0), (11, 0), (12, 0), (13, 0), (14, 0), (15, 0), (16, 1), (17, 0), (18, 0), (19, 0), (20, 0), (21, 1), (22, 2), (23, 0), (24, 0)] mixed rfl (by kernel_rfl) (by kernel_rfl) [exact x] ?_
        refine hwk ?_
        refine CH.pure rfl (PS.indexAddr (j := i) rfl rfl rfl rfl (by omega)) ?_
        refine hwk ?_
        (apply CH.read; (· rfl); (· apply PS.load (v := sv (l[i]).key); (· rfl); (· rfl); (· exact hp.1.cell (by first | exact pickA | exact updA) h1 0 rfl)); (· exact selA))
        refine hwk ?_
        refine CH.pure rfl (PS.indexAddr (j := i) rfl rfl rfl rfl (by omega)) ?_
        refine hwk ?_
        (apply CH.read; (· rfl); (· apply PS.load (v := sv (k[i]).key); (· rfl); (· rfl); (· exact hp.2.cell (by first | exact pickA | exact updA) h2 0 rfl)); (· exact selA))
        refine CH.pure rfl ((PS.neqStr (a := (l[i]).key) (b := (k[i]).key) rfl rfl rfl).toT hk) ?_
        refine hwk ?_
        refine wk ?_
        ((apply CQ.end1; (· rfl); (· exact .tmp rfl)); (· exact ⟨by rw [decide_eq_false fun e => hne (eat e i h1 h2)], rfl⟩); (· exact selA))
      by_cases hb : (l[i]).s.b = (k[i]).s.b
      rotate_left
      · have hne : (l[i]).m ≠ (k[i]).m := fun e => hb (congrArg Prod.snd e)
        refine wk ?_
        refine CC.draw [(0, 0), (1, 0), (2, 0), (3, 0), (4, 1), (5, 0), (6, 0), (7, 0), (8, 0), (9, 1), (10, 0), (11, 0), (12, 0), (13, 0), (14, 0), (15, 0), (16, 1), (17, 0), (18, 0), (19, 0), (20, 0), (21, 1), (22, 2), (23, 0), (24, 0)] mixed rfl (by kernel_rfl) (by kernel_rfl) [exact x] ?_
        refine hwk ?_
        refine CH.pure rfl (PS.indexAddr (j := i) rfl rfl rfl rfl (by omega)) ?_
        refine hwk ?_
        (apply CH.read; (· rfl); (· apply PS.load (v := sv (l[i]).key); (· rfl); (· rfl); (· exact hp.1.cell (by first | exact pickA | exact updA) h1 0 rfl)); (· exact selA))
        refine hwk ?_
        refine CH.pure rfl (PS.indexAddr (j := i) rfl rfl rfl rfl (by omega)) ?_
        refine hwk ?_
        (apply CH.read; (· rfl); (· apply PS.load (v := sv (k[i]).key); (· rfl); (· rfl); (· exact hp.2.cell (by first | exact pickA | exact updA) h2 0 rfl)); (· exact selA))
        refine CH.pure rfl ((PS.neqStr (a := (l[i]).key) (b := (k[i]).key) rfl rfl rfl).toF (fun h => h hk)) ?_
        refine hwk ?_
        refine CH.pure rfl (PS.indexAddr (j := i) rfl rfl rfl rfl (by omega)) ?_
        refine hwk ?_
        (apply CH.read; (· rfl); (· apply PS.load (v := .slice (l[i]).s.a (l[i]).s.b.length (l[i]).s.c); (· rfl); (· rfl); (· exact hp.1.cell (by first | exact pickA | exact updA) h1 1 rfl)); (· exact selA))
        refine hwk ?_
        refine CH.pure rfl (PS.indexAddr (j := i) rfl rfl rfl rfl (by omega)) ?_
        refine hwk ?_
        (apply CH.read; (· rfl); (· apply PS.load (v := .slice (k[i]).s.a (k[i]).s.b.length (k[i]).s.c); (· rfl); (· rfl); (· exact hp.2.cell (by first | exact pickA | exact updA) h2 1 rfl)); (· exact selA))
        refine CH.chain rfl fun K hK => ?_
        refine CX.callA (same_c (l[i]).s.b (k[i]).s.b (l[i]).s.a (k[i]).s.a (l[i]).s.c (k[i]).s.c) ?_ (hpre := by exact fun y hy => ⟨rdx_ex (show Pick (exact x) _ _ from by first | exact pickA | exact updA) hr.r y hy, rdx_ex (show Pick (exact x) _ _ from by first | exact pickA | exact updA) hr'.r y hy⟩)
        rw [decide_eq_false hb]
        rintro _ _ ⟨rfl, rfl⟩
        (refine CX.nil ?_; refine CQ.thenK ?_; apply hK; (· exact selA); clear hK K)
        refine hwk ?_
        refine wk ?_
        ((apply CQ.end1; (· rfl); (· exact .tmp rfl)); (· exact ⟨by rw [decide_eq_false fun e => hne (eat e i h1 h2)], rfl⟩); (· exact selA))
      · have heq : (l[i]).m = (k[i]).m := by unfold RwV.m; rw [hk, hb]
        refine wk ?_
        refine CC.draw [(0, 0), (1, 0), (2, 0), (3, 0), (4, 1), (5, 0), (6, 0), (7, 0), (8, 0), (9, 1), (10, 0), (11, 0), (12, 0), (13, 0), (14, 0), (15, 0), (16, 1), (17, 0), (18, 0), (19, 0), (20, 0), (21, 1), (22, 2), (23, 0), (24, 0)] mixed rfl (by kernel_rfl) (by kernel_rfl) [exact x] ?_
        refine hwk ?_
        refine CH.pure rfl (PS.indexAddr (j := i) rfl rfl rfl rfl (by omega)) ?_
        refine hwk ?_
        (apply CH.read; (· rfl); (· apply PS.load (v := sv (l[i]).key); (· rfl); (· rfl); (· exact hp.1.cell (by first | exact pickA | exact updA) h1 0 rfl)); (· exact selA))
        refine hwk ?_
        refine CH.pure rfl (PS.indexAddr (j := i) rfl rfl rfl rfl (by omega)) ?_
        refine hwk ?_
        (apply CH.read; (· rfl); (· apply PS.load (v := sv (k[i]).key); (· rfl); (· rfl); (· exact hp.2.cell (by first | exact pickA | exact updA) h2 0 rfl)); (· exact selA))
        refine CH.pure rfl ((PS.neqStr (a := (l[i]).key) (b := (k[i]).key) rfl rfl rfl).toF (fun h => h hk)) ?_
        refine hwk ?_
        refine CH.pure rfl (PS.indexAddr (j := i) rfl rfl rfl rfl (by omega)) ?_
        refine hwk ?_
        (apply CH.read; (· rfl); (· apply PS.load (v := .slice (l[i]).s.a (l[i]).s.b.length (l[i]).s.c); (· rfl); (· rfl); (· exact hp.1.cell (by first | exact pickA | exact updA) h1 1 rfl)); (· exact selA))
        refine hwk ?_
        refine CH.pure rfl (PS.indexAddr (j := i) rfl rfl rfl rfl (by omega)) ?_
        refine hwk ?_
        (apply CH.read; (· rfl); (· apply PS.load (v := .slice (k[i]).s.a (k[i]).s.b.length (k[i]).s.c); (· rfl); (· rfl); (· exact hp.2.cell (by first | exact pickA | exact updA) h2 1 rfl)); (· exact selA))
        refine CH.chain rfl fun K hK => ?_
        refine CX.callA (same_c (l[i]).s.b (k[i]).s.b (l[i]).s.a (k[i]).s.a (l[i]).s.c (k[i]).s.c) ?_ (hpre := by exact fun y hy => ⟨rdx_ex (show Pick (exact x) _ _ from by first | exact pickA | exact updA) hr.r y hy, rdx_ex (show Pick (exact x) _ _ from by first | exact pickA | exact updA) hr'.r y hy⟩)
        rw [decide_eq_true hb]
        rintro _ _ ⟨rfl, rfl⟩
        (refine CX.nil ?_; refine CQ.thenK ?_; apply hK; (· exact selA); clear hK K)
        refine hwk ?_
        refine wk ?_
        exact CQ.round (i + 1) ⟨by omega, fun j h h' h0 => by
          by_cases e : j < i
          · exact hpre j h h' e
          · obtain rfl : j = i := by omega
            exact heq⟩ (by omega) ⟨eqI (by omega), rfl, rfl, trivial⟩ (by exact selA)
    · obtain rfl : i = l.length := by omega
      have e : l.map RwV.m = k.map RwV.m := List.ext_getElem (by simpa using hn) fun j h h' => by simpa using hpre j (by simpa using h) (by simpa using h') (by simpa using h)
      refine wk ?_
      ((apply CQ.end1; (· rfl); (· exact .tmp rfl)); (· exact ⟨by rw [decide_eq_true e], rfl⟩); (· exact selA))
  · have e : l.map RwV.m ≠ k.map RwV.m := fun h => hn (by simpa using congrArg List.length h)
    refine wk ?_
    ((apply CQ.end1; (· rfl); (· exact .tmp rfl)); (· exact ⟨by rw [decide_eq_false e], rfl⟩); (· exact selA))
end Go.Proofs.Ytlckhaodecdbbaa
/-! Two lists gone through at once (batch.merged), in the program. Printed by mg.py (wip). -/
namespace Go.Cx
/-- Parts of the memory as one. -/
@[irreducible] def many (M : List Assn) : Assn where
  ok h := Sep M h
  mono := fun _ _ l s => s.mono l
theorem many_ok {M : List Assn} {h : PH} : (many M).ok h ↔ Sep M h := by
  unfold many; exact Iff.rfl
theorem Sep.many_in {M L : List Assn} {h : PH} (s : Sep (M ++ L) h) : Sep (many M :: L) h := by
  obtain ⟨S, a, b⟩ := s.append
  exact ⟨S, many_ok.2 a, b⟩
theorem Sep.many_out {M L : List Assn} {h : PH} (s : Sep (many M :: L) h) : Sep (M ++ L) h := by
  obtain ⟨S, a, b⟩ := s
  exact Sep.join S (many_ok.1 a) b
section
variable {P : Program} {ops : Array Oper} {Q : Exit → Act → World → Prop} {n l : Nat} {e0 : World} {env : Env} {L : List Assn} {rest : List Oper}
variable {dst : Option Tmp} {ty : TypeId} {pos : String} {aft : Array Edge} {g : Option (Nat × Bool)} {op : Op}
theorem CXI.yieldM {y : Operand} {xs : List Operand} {tys : Array TypeId} {vs : List Value} {x : PH} {I : Nat → List Assn → Prop} {encs : List (List Value)} {k : Nat} {M L' N : List Assn}
    (hY : ∀ k v M y w, encs[k]? = some v → I k M → Le x y → Sep (M ++ [exact y]) w.ph → YieldAt Fence.wide 0 P l v.toArray w (CtrR y w (fun u M' => u = .bool true ∧ I (k + 1) M')))
    (hk : encs[k]? = some vs) (hI : I k M)
    (h : ∀ M', I (k + 1) M' → CXI P ops Q n e0 (putE env dst (.bool true)) (many M' :: L') rest) (p : Pick (many M) L L' := by first | exact pickA | exact updA) (q : Pick (exact x) L' N := by first | exact pickA | exact updA) (hg : gd ops n env g = some true := by rfl)
    (hy : ev n env y = some (.func (.yield l) #[] #[]) := by rfl) (hx : evs n env xs = some vs := by rfl) :
    CXI P ops Q n e0 env L (⟨dst, .call ⟨.value y, xs.toArray, tys⟩, ty, pos, aft, g⟩ :: rest) :=
  CXI.step hg fun a w hf hs he => by
    obtain ⟨z, hz, hl⟩ := ((p.sep hs).many_out).rest
    obtain ⟨fn, tmps, assign, body, hrun, hR⟩ := hY k vs M z w hk hI (q.ok hl) hz
    refine ⟨fun _ _ => trivial, ?_⟩
    have hm := hf.evals hx
    have hv := hf.eval hy
    have e : (execOp a.eval ⟨dst, .call ⟨.value y, xs.toArray, tys⟩, ty, pos, aft, g⟩).run P w = .ok (.round l fn tmps assign body) w := by
      rw [← hrun, ← hm]
      simp [execOp, resolve, hv, Deferred.ofValue, invoke]
    rw [show Fence.wide.round = none from rfl, Oper.semAt_none, e]
    refine ⟨FW_depth none, hR.mono ?_⟩
    rintro e w' ⟨v, M', ⟨rfl, hI'⟩, rfl, hs', he'⟩
    exact h M' hI' _ _ (hf.put dst _) ((hs'.unrest hl).many_in) (he.trans he')
theorem Iter.intro {f : FuncId} {fn : Func} {c : Code} {caps : List Value} {H : List Assn} {Rd : PH → Prop} {encs : List (List Value)}
    (hf : P.funcs[f]? = some fn) (hb : fn.body = some c) (hn : fn.ntmps = n) (hl : Nat.ble (caps.length + 1) n = true)
    (h : ∀ (l : Nat) (x : PH) (I : Nat → List Assn → Prop) (w : World), Rd x →
      (∀ k v M y w, encs[k]? = some v → I k M → Le x y → Sep (M ++ [exact y]) w.ph → YieldAt Fence.wide 0 P l v.toArray w (CtrR y w (fun u M' => u = .bool true ∧ I (k + 1) M'))) →
      ∀ M0, I 0 M0 → CC P c (bodyPost P fn (CtrR x w (fun v M => v = .tuple #[] ∧ I encs.length M))) n w (argE (.func (.yield l) #[] #[] :: caps) 0) (many M0 :: (H ++ [exact x]))) : Iter P f caps H Rd encs := by
  intro l x I hrd hY M0 w hI hs
  have hl' := Nat.le_of_ble_eq_true hl
  refine calls_of_wp hf hb (h l x I w hrd hY M0 hI _ w ⟨rfl, ?_, fun t v ht hlk => ?_⟩ ?_ (Env0.refl w))
  · simp [hn]; omega
  · obtain ⟨j, e, hj⟩ := look_argE _ _ _ _ hlk
    have hjl : j < (Value.func (.yield l) #[] #[] :: caps).length := (List.getElem?_eq_some_iff.1 hj).1
    subst e
    simp only [Nat.zero_add, Array.getD_eq_getD_getElem?]
    rw [Array.getElem?_append_left (by simpa using hjl)]
    simp [hj]
  · rw [List.append_assoc] at hs
    have h1 : Sep (many M0 :: (H ++ [exact x])) w.ph := by
      obtain ⟨S, a, b⟩ := hs.append
      have e3 : Sep (many M0 :: [exact x]) (w.ph.less S) := b.many_in
      have e4 : Sep (H ++ (many M0 :: [exact x])) w.ph := Sep.join S a e3
      exact (pick_mid (many M0) H [exact x]).sep e4
    exact h1
theorem CQ.endIter {fn : Func} {x : PH} {I : Nat → List Assn → Prop} {k m : Nat} {M L' N : List Assn} (hr : fn.results = #[]) (hI : I k M) (e : k = m) (p : Pick (many M) L L' := by first | exact pickA | exact updA) (q : Pick (exact x) L' N := by first | exact pickA | exact updA) :
    CQ (bodyPost P fn (CtrR x e0 (fun v M => v = .tuple #[] ∧ I m M)) .normal) n e0 env L := fun a w hf hs he => by
  subst e
  have s2 : Sep (many M :: exact x :: N) w.ph := Sep.cons_mono (fun _ => q.sep) (p.sep hs)
  have s3 : Sep ([many M, exact x] ++ N) w.ph := s2
  exact ⟨hf.defers, _, fin0 hr w, _, M, ⟨rfl, hI⟩, rfl, (s3.left).many_out, he⟩
end
/-! ### What is handed out -/
def mrg {α β : Type} (ka : α → Blk) (kb : β → Blk) : Nat → List α → Nat → List β → List (Option (Nat × α) × Option (Nat × β))
  | _, [], _, [] => []
  | i, x :: t, j, [] => (some (i, x), none) :: mrg ka kb (i + 1) t j []
  | i, [], j, y :: l => (none, some (j, y)) :: mrg ka kb i [] (j + 1) l
  | i, x :: t, j, y :: l =>
    if klt (ka x) (kb y) then (some (i, x), none) :: mrg ka kb (i + 1) t j (y :: l)
    else if ka x = kb y then (some (i, x), some (j, y)) :: mrg ka kb (i + 1) t (j + 1) l
    else (none, some (j, y)) :: mrg ka kb i (x :: t) (j + 1) l
termination_by _ t _ l => t.length + l.length
def atP (a : Option Addr) (k : Nat) : Option Addr := a.map (·.add k)
def encM {α β : Type} (a b : Option Addr) (sa sb : Nat) (p : Option (Nat × α) × Option (Nat × β)) : List Value :=
  [.pointer (p.1.bind fun q => atP a (q.1 * sa)), .pointer (p.2.bind fun q => atP b (q.1 * sb))]
theorem atP_some (g o k : Nat) : atP (some ⟨g, o, none⟩) k = some ⟨g, o + k, none⟩ := by simp [atP, addr_add]
theorem drop_cons {α : Type} {L T : List α} {h : α} {k : Nat} (e : h :: T = L.drop k) : k < L.length ∧ L[k]? = some h ∧ T = L.drop (k + 1) := by
  have h1 : k < L.length := by
    rcases Nat.lt_or_ge k L.length with h1 | h1
    · exact h1
    · rw [List.drop_of_length_le h1] at e; cases e
  rw [List.drop_eq_getElem_cons h1] at e
  simp only [List.cons.injEq] at e
  exact ⟨h1, by rw [List.getElem?_eq_getElem h1, ← e.1], e.2⟩
theorem rwAt.cells0 {L L' : List Assn} {x : PH} {g off i : Nat} {l : List RwV} (h : rwAt (some ⟨g, off, none⟩) l x) (p : Pick (exact x) L L') (hi : i < l.length) : CellsAt L g (off + i * 2 + 0 * 2) (l[i]).cells := h.cells p hi
theorem chAt.cells0 {L L' : List Assn} {x : PH} {g off i : Nat} {l : List ChV} (h : chAt (some ⟨g, off, none⟩) l x) (p : Pick (exact x) L L') (hi : i < l.length) : CellsAt L g (off + i * 3 + 0 * 3) (l[i]).cells := h.cells p hi
def cmpZ (a b : Blk) : Int := if klt a b then -1 else if a = b then 0 else 1
end Go.Cx
namespace Go.Proofs.Ytlckhaodecdbbaa
open Go.Cx
attribute [local irreducible] Go.Cx.CX Go.Cx.CC Go.Cx.CQ Go.Cx.PS Go.Cx.Ctr Go.Cx.CH
set_option maxRecDepth 10000
theorem nan_c (a : Blk) : Ctr Try.prog 158 [sv a] [] (fun _ => True) (fun v M => v = .bool false ∧ M = []) := by
  refine Ctr.intro Try.func158 rfl Try.ntmps158 rfl fun x w hp => ?_
  refine wk ?_
  refine CX.ps ((PS.neqStr (a := a) (b := a) rfl rfl rfl).toF (fun h => h rfl)) ?_
  refine wk ?_
  ((apply CQ.end1; (· rfl); (· exact .tmp rfl)); (· exact ⟨rfl, rfl⟩); (· exact selA))
theorem cmp_c (a b : Blk) : Ctr Try.prog 134 [sv a, sv b] [] (fun _ => True) (fun v M => v = .int .i64 (cmpZ a b) ∧ M = []) := by
  refine Ctr.intro Try.func134 rfl Try.ntmps134 rfl fun x w hp => ?_
  refine wk ?_
  refine CX.callA (nan_c a) ?_
  rintro _ _ ⟨rfl, rfl⟩
  refine wk ?_
  refine CX.callA (nan_c b) ?_
  rintro _ _ ⟨rfl, rfl⟩
  by_cases h1 : klt a b = true
  · rw [show cmpZ a b = -1 by unfold cmpZ; rw [if_pos h1]]
    refine wk ?_
    refine CX.ps (PS.lssStr (a := a) (b := b) true h1) ?_
    refine wk ?_
    ((apply CQ.end1; (· rfl); (· exact .tmp rfl)); (· exact ⟨rfl, rfl⟩); (· exact selA))
  · have h1' : klt a b = false := by simpa using h1
    by_cases h2 : a = b
    · rw [show cmpZ a b = 0 by unfold cmpZ; rw [if_neg h1, if_pos h2]]
      refine wk ?_
      refine CX.ps (PS.lssStr (a := a) (b := b) false h1') ?_
      refine wk ?_
      refine CX.ps (PS.gtrStr (a := a) (b := b) false (by rw [h2, klt_irr])) ?_
      refine wk ?_
      ((apply CQ.end1; (· rfl); (· exact .tmp rfl)); (· exact ⟨rfl, rfl⟩); (· exact selA))
    · have h3 : klt b a = true := by
        rcases klt_tri a b with h | h | h
        · exact absurd h h1
        · exact absurd h h2
        · exact h
      rw [show cmpZ a b = 1 by unfold cmpZ; rw [if_neg h1, if_neg h2]]
      refine wk ?_
      refine CX.ps (PS.lssStr (a := a) (b := b) false h1') ?_
      refine wk ?_
      refine CX.ps (PS.gtrStr (a := a) (b := b) true h3) ?_
      refine wk ?_
      ((apply CQ.end1; (· rfl); (· exact .tmp rfl)); (· exact ⟨rfl, rfl⟩); (· exact selA))
theorem itC_c (t : List RwV) (l : List ChV) (ht : t.length ≤ 1073741824) (hl : l.length ≤ 1073741824) (a b : Option Addr) (ca cb' : Nat) (hca : t.length ≤ ca) (hcb : l.length ≤ cb') (b1 b2 b3 b4 : Nat) :
    Iter Try.prog 159 [.pointer (some ⟨b1, 0, none⟩), .pointer (some ⟨b2, 0, none⟩), .pointer (some ⟨b3, 0, none⟩), .pointer (some ⟨b4, 0, none⟩)]
      [bk b1 99 [.slice a t.length ca], bk b2 92 [.slice b l.length cb'], bk b3 162 [.func (.func 124) #[] #[]], bk b4 175 [.func (.func 136) #[] #[]]]
      (fun x => rwAt a t x ∧ chAt b l x) ((mrg rwKey chKey 0 t 0 l).map (encM a b 2 3)) := by
  refine Iter.intro Try.func159 rfl Try.ntmps159 rfl ?_
  rintro ly x I w ⟨hpa, hpb⟩ hY M0 hI0
  rw [List.length_map]
  generalize hL : mrg rwKey chKey 0 t 0 l = Lm at *
  refine wk ?_
  refine CC.loop (X := Nat × Nat × Option Addr × Option Addr × Nat × List Assn)
    (fun s => [(0, .func (.yield ly) #[] #[]), (1, .pointer (some ⟨b1, 0, none⟩)), (2, .pointer (some ⟨b2, 0, none⟩)), (3, .pointer (some ⟨b3, 0, none⟩)), (4, .pointer (some ⟨b4, 0, none⟩))])
    (fun s => [many s.2.2.2.2.2, bk b1 99 [.slice s.2.2.1 (t.length - s.1) (ca - s.1)], bk b2 92 [.slice s.2.2.2.1 (l.length - s.2.1) (cb' - s.2.1)], bk b3 162 [.func (.func 124) #[] #[]], bk b4 175 [.func (.func 136) #[] #[]], exact x])
    (fun s => s.1 ≤ t.length ∧ s.2.1 ≤ l.length ∧ (s.1 < t.length → s.2.2.1 = atP a (s.1 * 2)) ∧ (s.2.1 < l.length → s.2.2.2.1 = atP b (s.2.1 * 3)) ∧ s.2.2.2.2.1 ≤ Lm.length ∧ mrg rwKey chKey s.1 (t.drop s.1) s.2.1 (l.drop s.2.1) = Lm.drop s.2.2.2.2.1 ∧ I s.2.2.2.2.1 s.2.2.2.2.2)
    (fun s => (t.length - s.1) + (l.length - s.2.1)) (0, 0, a, b, 0, M0) ⟨Nat.zero_le _, Nat.zero_le _, fun h => by
      obtain ⟨g, o, rfl⟩ := rwAt_some hpa (by omega)
      simp [atP_some], fun h => by
      obtain ⟨g, o, rfl⟩ := chAt_some hpb (by omega)
      simp [atP_some], Nat.zero_le _, by simpa using hL, hI0⟩ ⟨rfl, rfl, rfl, rfl, rfl, trivial⟩ (by simp only [Nat.sub_zero]; exact selA) ?_
  rintro ⟨i, j, sa, sb, k, M⟩ ⟨hi, hj, hsa, hsb, hk, hm, hI⟩
  dsimp only at hi hj hsa hsb hk hm hI ⊢
  by_cases h1 : i < t.length
  · obtain ⟨ga, oa, rfl⟩ := rwAt_some hpa (by omega)
    obtain rfl := hsa h1
    rw [atP_some]
    have eA : t.drop i = t[i] :: t.drop (i + 1) := List.drop_eq_getElem_cons h1
    have nxA : i + 1 < t.length → some (⟨ga, if ca - i = 1 then oa + i * 2 else oa + i * 2 + 1 * 2, none⟩ : Addr) = atP (some ⟨ga, oa, none⟩) ((i + 1) * 2) := fun h => by
      rw [atP_some, if_neg (by omega)]; congr 2; omega
    by_cases h2 : j < l.length
    · obtain ⟨gb, ob', rfl⟩ := chAt_some hpb (by omega)
      obtain rfl := hsb h2
      rw [atP_some]
      have eB : l.drop j = l[j] :: l.drop (j + 1) := List.drop_eq_getElem_cons h2
      have nxB : j + 1 < l.length → some (⟨gb, if cb' - j = 1 then ob' + j * 3 else ob' + j * 3 + 1 * 3, none⟩ : Addr) = atP (some ⟨gb, ob', none⟩) ((j + 1) * 3) := fun h => by
        rw [atP_some, if_neg (by omega)]; congr 2; omega
      rw [eA, eB, mrg, ← eA, ← eB] at hm
      by_cases h3 : klt (rwKey t[i]) (chKey l[j]) = true
      · rw [if_pos h3] at hm
        obtain ⟨hk1, hk2, hm2⟩ := drop_cons hm
        have hz : cmpZ (t[i]).key (l[j]).key = -1 := if_pos h3
        refine wk ?_
        refine CC.draw [(0, 1), (1, 1), (2, 0), (3, 1), (5, 1), (6, 1), (7, 0), (8, 1), (4, 2), (9, 2), (10, 2), (11, 0)] mixed rfl (by kernel_rfl) (by kernel_rfl) [bk b1 99 [.slice (some ⟨ga, oa + i * 2, none⟩) (t.length - i) (ca - i)], bk b2 92 [.slice (some ⟨gb, ob' + j * 3, none⟩) (l.length - j) (cb' - j)], bk b3 162 [.func (.func 124) #[] #[]], bk b4 175 [.func (.func 136) #[] #[]], exact x] ?_
        refine hwk ?_
        refine CH.pure rfl (PS.indexAddr (j := 0) rfl rfl rfl rfl (by omega)) ?_
        (apply CH.read; (· rfl); (· apply PS.loadG (vs := (t[i]).cells); (· rfl); (· rfl); (· exact hpa.cells0 (by first | exact pickA | exact updA) h1); (· rfl)); (· exact selA))
        refine hwk ?_
        refine CH.pure rfl (PS.indexAddr (j := 0) rfl rfl rfl rfl (by omega)) ?_
        (apply CH.read; (· rfl); (· apply PS.loadG (vs := (l[j]).cells); (· rfl); (· rfl); (· exact hpb.cells0 (by first | exact pickA | exact updA) h2); (· rfl)); (· exact selA))
        refine CH.chain rfl fun K hK => ?_
        refine CX.callF (k1R_c t[i]) ?_
        rintro _ _ ⟨rfl, rfl⟩
        (refine CX.nil ?_; refine CQ.thenK ?_; apply hK; (· exact selA); clear hK K)
        refine CH.chain rfl fun K hK => ?_
        refine CX.callF (k1C_c l[j]) ?_
        rintro _ _ ⟨rfl, rfl⟩
        (refine CX.nil ?_; refine CQ.thenK ?_; apply hK; (· exact selA); clear hK K)
        refine CH.chain rfl fun K hK => ?_
        refine CX.callA (cmp_c (t[i]).key (l[j]).key) ?_
        rw [hz]
        rintro _ _ ⟨rfl, rfl⟩
        (refine CX.nil ?_; refine CQ.thenK ?_; apply hK; (· exact selA); clear hK K)
        refine hwk ?_
        refine wk ?_
        refine CC.draw [(0, 1), (1, 0), (2, 1), (3, 0), (4, 0), (5, 3)] mixed rfl (by kernel_rfl) (by kernel_rfl) [bk b1 99 [.slice (some ⟨ga, oa + i * 2, none⟩) (t.length - i) (ca - i)]] ?_
        refine hwk ?_
        refine CH.pure rfl (PS.indexAddr (j := 0) rfl rfl rfl rfl (by omega)) ?_
        refine hwk ?_
        refine CH.pure rfl (PS.sliceLo (l := 1) rfl rfl rfl rfl (by omega) (by omega)) ?_
        refine hwk ?_
        refine CH.tail rfl rfl fun K hK => ?_
        refine CX.storeA ?_
        (refine CX.nil ?_; refine CQ.thenK ?_; apply hK; clear hK K)
        refine hwk ?_
        refine wnk ?_
        refine CC.region ?_
        refine wnk ?_
        refine CC.regionI ?_
        refine CXI.ps ?_
        refine CXI.ps ?_
        refine CXI.ps ?_
        refine CXI.yieldM hY (k := k) (M := M) (vs := [.pointer (some ⟨ga, oa + i * 2, none⟩), .pointer none]) (by rw [List.getElem?_map, hk2]; simp [encM, atP_some]) hI ?_
        intro M' hI'
        refine CXI.ps ?_
        refine CXI.nil ?_
        refine wnk ?_
        exact CQ.round (x := (i, j, some ⟨ga, oa + i * 2, none⟩, some ⟨gb, ob' + j * 3, none⟩, k, M)) (i + 1, j, some ⟨ga, if ca - i = 1 then oa + i * 2 else oa + i * 2 + 1 * 2, none⟩, some ⟨gb, ob' + j * 3, none⟩, k + 1, M') ⟨by dsimp only; omega, by dsimp only; omega, nxA, fun _ => by rw [atP_some], by dsimp only; omega, hm2, hI'⟩ (by dsimp only; omega) ⟨rfl, rfl, rfl, rfl, rfl, trivial⟩ (by (try simp only [Nat.sub_sub]); exact selA)
      · rw [if_neg h3] at hm
        by_cases h4 : rwKey t[i] = chKey l[j]
        · rw [if_pos h4] at hm
          obtain ⟨hk1, hk2, hm2⟩ := drop_cons hm
          have hz : cmpZ (t[i]).key (l[j]).key = 0 := (if_neg h3).trans (if_pos h4)
          refine wk ?_
          refine CC.draw [(0, 1), (1, 1), (2, 0), (3, 1), (5, 1), (6, 1), (7, 0), (8, 1), (4, 2), (9, 2), (10, 2), (11, 0)] mixed rfl (by kernel_rfl) (by kernel_rfl) [bk b1 99 [.slice (some ⟨ga, oa + i * 2, none⟩) (t.length - i) (ca - i)], bk b2 92 [.slice (some ⟨gb, ob' + j * 3, none⟩) (l.length - j) (cb' - j)], bk b3 162 [.func (.func 124) #[] #[]], bk b4 175 [.func (.func 136) #[] #[]], exact x] ?_
          refine hwk ?_
          refine CH.pure rfl (PS.indexAddr (j := 0) rfl rfl rfl rfl (by omega)) ?_
          (apply CH.read; (· rfl); (· apply PS.loadG (vs := (t[i]).cells); (· rfl); (· rfl); (· exact hpa.cells0 (by first | exact pickA | exact updA) h1); (· rfl)); (· exact selA))
          refine hwk ?_
          refine CH.pure rfl (PS.indexAddr (j := 0) rfl rfl rfl rfl (by omega)) ?_
          (apply CH.read; (· rfl); (· apply PS.loadG (vs := (l[j]).cells); (· rfl); (· rfl); (· exact hpb.cells0 (by first | exact pickA | exact updA) h2); (· rfl)); (· exact selA))
          refine CH.chain rfl fun K hK => ?_
          refine CX.callF (k1R_c t[i]) ?_
          rintro _ _ ⟨rfl, rfl⟩
          (refine CX.nil ?_; refine CQ.thenK ?_; apply hK; (· exact selA); clear hK K)
          refine CH.chain rfl fun K hK => ?_
          refine CX.callF (k1C_c l[j]) ?_
          rintro _ _ ⟨rfl, rfl⟩
          (refine CX.nil ?_; refine CQ.thenK ?_; apply hK; (· exact selA); clear hK K)
          refine CH.chain rfl fun K hK => ?_
          refine CX.callA (cmp_c (t[i]).key (l[j]).key) ?_
          rw [hz]
          rintro _ _ ⟨rfl, rfl⟩
          (refine CX.nil ?_; refine CQ.thenK ?_; apply hK; (· exact selA); clear hK K)
          refine hwk ?_
          refine wk ?_
          refine CC.draw [(0, 1), (1, 0), (2, 1), (3, 0), (4, 0), (5, 3)] mixed rfl (by kernel_rfl) (by kernel_rfl) [bk b1 99 [.slice (some ⟨ga, oa + i * 2, none⟩) (t.length - i) (ca - i)]] ?_
          refine hwk ?_
          refine CH.pure rfl (PS.indexAddr (j := 0) rfl rfl rfl rfl (by omega)) ?_
          refine hwk ?_
          refine CH.pure rfl (PS.sliceLo (l := 1) rfl rfl rfl rfl (by omega) (by omega)) ?_
          refine hwk ?_
          refine CH.tail rfl rfl fun K hK => ?_
          refine CX.storeA ?_
          (refine CX.nil ?_; refine CQ.thenK ?_; apply hK; clear hK K)
          refine hwk ?_
          refine wnk ?_
          refine CC.region ?_
          refine wnk ?_
          refine CC.draw [(0, 1), (1, 0), (2, 1), (3, 0), (4, 0), (5, 3)] mixed rfl (by kernel_rfl) (by kernel_rfl) [bk b2 92 [.slice (some ⟨gb, ob' + j * 3, none⟩) (l.length - j) (cb' - j)]] ?_
          refine hwk ?_
          refine CH.pure rfl (PS.indexAddr (j := 0) rfl rfl rfl rfl (by omega)) ?_
          refine hwk ?_
          refine CH.pure rfl (PS.sliceLo (l := 1) rfl rfl rfl rfl (by omega) (by omega)) ?_
          refine hwk ?_
          refine CH.tail rfl rfl fun K hK => ?_
          refine CX.storeA ?_
          (refine CX.nil ?_; refine CQ.thenK ?_; apply hK; clear hK K)
          refine hwk ?_
          refine wnk ?_
          refine CC.regionI ?_
          refine CXI.ps ?_
          refine CXI.ps ?_
          refine CXI.ps ?_
          refine CXI.yieldM hY (k := k) (M := M) (vs := [.pointer (some ⟨ga, oa + i * 2, none⟩), .pointer (some ⟨gb, ob' + j * 3, none⟩)]) (by rw [List.getElem?_map, hk2]; simp [encM, atP_some]) hI ?_
          intro M' hI'
          refine CXI.ps ?_
          refine CXI.nil ?_
          refine wnk ?_
          exact CQ.round (x := (i, j, some ⟨ga, oa + i * 2, none⟩, some ⟨gb, ob' + j * 3, none⟩, k, M)) (i + 1, j + 1, some ⟨ga, if ca - i = 1 then oa + i * 2 else oa + i * 2 + 1 * 2, none⟩, some ⟨gb, if cb' - j = 1 then ob' + j * 3 else ob' + j * 3 + 1 * 3, none⟩, k + 1, M') ⟨by dsimp only; omega, by dsimp only; omega, nxA, nxB, by dsimp only; omega, hm2, hI'⟩ (by dsimp only; omega) ⟨rfl, rfl, rfl, rfl, rfl, trivial⟩ (by (try simp only [Nat.sub_sub]); exact selA)
        · rw [if_neg h4] at hm
          obtain ⟨hk1, hk2, hm2⟩ := drop_cons hm
          have hz : cmpZ (t[i]).key (l[j]).key = 1 := (if_neg h3).trans (if_neg h4)
          refine wk ?_
          refine CC.draw [(0, 1), (1, 1), (2, 0), (3, 1), (5, 1), (6, 1), (7, 0), (8, 1), (4, 2), (9, 2), (10, 2), (11, 0)] mixed rfl (by kernel_rfl) (by kernel_rfl) [bk b1 99 [.slice (some ⟨ga, oa + i * 2, none⟩) (t.length - i) (ca - i)], bk b2 92 [.slice (some ⟨gb, ob' + j * 3, none⟩) (l.length - j) (cb' - j)], bk b3 162 [.func (.func 124) #[] #[]], bk b4 175 [.func (.func 136) #[] #[]], exact x] ?_
          refine hwk ?_
          refine CH.pure rfl (PS.indexAddr (j := 0) rfl rfl rfl rfl (by omega)) ?_
          (apply CH.read; (· rfl); (· apply PS.loadG (vs := (t[i]).cells); (· rfl); (· rfl); (· exact hpa.cells0 (by first | exact pickA | exact updA) h1); (· rfl)); (· exact selA))
          refine hwk ?_
          refine CH.pure rfl (PS.indexAddr (j := 0) rfl rfl rfl rfl (by omega)) ?_
          (apply CH.read; (· rfl); (· apply PS.loadG (vs := (l[j]).cells); (· rfl); (· rfl); (· exact hpb.cells0 (by first | exact pickA | exact updA) h2); (· rfl)); (· exact selA))
          refine CH.chain rfl fun K hK => ?_
          refine CX.callF (k1R_c t[i]) ?_
          rintro _ _ ⟨rfl, rfl⟩
          (refine CX.nil ?_; refine CQ.thenK ?_; apply hK; (· exact selA); clear hK K)
          refine CH.chain rfl fun K hK => ?_
          refine CX.callF (k1C_c l[j]) ?_
          rintro _ _ ⟨rfl, rfl⟩
          (refine CX.nil ?_; refine CQ.thenK ?_; apply hK; (· exact selA); clear hK K)
          refine CH.chain rfl fun K hK => ?_
          refine CX.callA (cmp_c (t[i]).key (l[j]).key) ?_
          rw [hz]
          rintro _ _ ⟨rfl, rfl⟩
          (refine CX.nil ?_; refine CQ.thenK ?_; apply hK; (· exact selA); clear hK K)
          refine hwk ?_
          refine wk ?_
          refine CC.draw [(0, 1), (1, 0), (2, 1), (3, 0), (4, 0), (5, 3)] mixed rfl (by kernel_rfl) (by kernel_rfl) [bk b2 92 [.slice (some ⟨gb, ob' + j * 3, none⟩) (l.length - j) (cb' - j)]] ?_
          refine hwk ?_
          refine CH.pure rfl (PS.indexAddr (j := 0) rfl rfl rfl rfl (by omega)) ?_
          refine hwk ?_
          refine CH.pure rfl (PS.sliceLo (l := 1) rfl rfl rfl rfl (by omega) (by omega)) ?_
          refine hwk ?_
          refine CH.tail rfl rfl fun K hK => ?_
          refine CX.storeA ?_
          (refine CX.nil ?_; refine CQ.thenK ?_; apply hK; clear hK K)
          refine hwk ?_
          refine wnk ?_
          refine CC.regionI ?_
          refine CXI.ps ?_
          refine CXI.ps ?_
          refine CXI.ps ?_
          refine CXI.yieldM hY (k := k) (M := M) (vs := [.pointer none, .pointer (some ⟨gb, ob' + j * 3, none⟩)]) (by rw [List.getElem?_map, hk2]; simp [encM, atP_some]) hI ?_
          intro M' hI'
          refine CXI.ps ?_
          refine CXI.nil ?_
          refine wnk ?_
          exact CQ.round (x := (i, j, some ⟨ga, oa + i * 2, none⟩, some ⟨gb, ob' + j * 3, none⟩, k, M)) (i, j + 1, some ⟨ga, oa + i * 2, none⟩, some ⟨gb, if cb' - j = 1 then ob' + j * 3 else ob' + j * 3 + 1 * 3, none⟩, k + 1, M') ⟨by dsimp only; omega, by dsimp only; omega, (fun _ => by rw [atP_some]), nxB, by dsimp only; omega, hm2, hI'⟩ (by dsimp only; omega) ⟨rfl, rfl, rfl, rfl, rfl, trivial⟩ (by (try simp only [Nat.sub_sub]); exact selA)
    · obtain rfl : j = l.length := by omega
      rw [eA, List.drop_length, mrg] at hm
      obtain ⟨hk1, hk2, hm2⟩ := drop_cons hm
      refine wk ?_
      refine CC.draw [(0, 1), (1, 0), (2, 1), (3, 0), (4, 0), (5, 3)] mixed rfl (by kernel_rfl) (by kernel_rfl) [bk b1 99 [.slice (some ⟨ga, oa + i * 2, none⟩) (t.length - i) (ca - i)]] ?_
      refine hwk ?_
      refine CH.pure rfl (PS.indexAddr (j := 0) rfl rfl rfl rfl (by omega)) ?_
      refine hwk ?_
      refine CH.pure rfl (PS.sliceLo (l := 1) rfl rfl rfl rfl (by omega) (by omega)) ?_
      refine hwk ?_
      refine CH.tail rfl rfl fun K hK => ?_
      refine CX.storeA ?_
      (refine CX.nil ?_; refine CQ.thenK ?_; apply hK; clear hK K)
      refine hwk ?_
      refine wnk ?_
      refine CC.region ?_
      refine wnk ?_
      refine CC.regionI ?_
      refine CXI.ps ?_
      refine CXI.ps ?_
      refine CXI.ps ?_
      refine CXI.yieldM hY (k := k) (M := M) (vs := [.pointer (some ⟨ga, oa + i * 2, none⟩), .pointer none]) (by rw [List.getElem?_map, hk2]; simp [encM, atP_some]) hI ?_
      intro M' hI'
      refine CXI.ps ?_
      refine CXI.nil ?_
      refine wnk ?_
      exact CQ.round (x := (i, l.length, some ⟨ga, oa + i * 2, none⟩, sb, k, M)) (i + 1, l.length, some ⟨ga, if ca - i = 1 then oa + i * 2 else oa + i * 2 + 1 * 2, none⟩, sb, k + 1, M') ⟨by dsimp only; omega, by dsimp only; omega, nxA, (fun h => by dsimp only at h; omega), by dsimp only; omega, by dsimp only; rw [List.drop_length]; exact hm2, hI'⟩ (by dsimp only; omega) ⟨rfl, rfl, rfl, rfl, rfl, trivial⟩ (by (try simp only [Nat.sub_sub]); exact selA)
  · obtain rfl : i = t.length := by omega
    by_cases h2 : j < l.length
    · obtain ⟨gb, ob', rfl⟩ := chAt_some hpb (by omega)
      obtain rfl := hsb h2
      rw [atP_some]
      have eB : l.drop j = l[j] :: l.drop (j + 1) := List.drop_eq_getElem_cons h2
      have nxB : j + 1 < l.length → some (⟨gb, if cb' - j = 1 then ob' + j * 3 else ob' + j * 3 + 1 * 3, none⟩ : Addr) = atP (some ⟨gb, ob', none⟩) ((j + 1) * 3) := fun h => by
        rw [atP_some, if_neg (by omega)]; congr 2; omega
      rw [eB, List.drop_length, mrg] at hm
      obtain ⟨hk1, hk2, hm2⟩ := drop_cons hm
      refine wk ?_
      refine CC.draw [(0, 1), (1, 0), (2, 1), (3, 0), (4, 0), (5, 3)] mixed rfl (by kernel_rfl) (by kernel_rfl) [bk b2 92 [.slice (some ⟨gb, ob' + j * 3, none⟩) (l.length - j) (cb' - j)]] ?_
      refine hwk ?_
      refine CH.pure rfl (PS.indexAddr (j := 0) rfl rfl rfl rfl (by omega)) ?_
      refine hwk ?_
      refine CH.pure rfl (PS.sliceLo (l := 1) rfl rfl rfl rfl (by omega) (by omega)) ?_
      refine hwk ?_
      refine CH.tail rfl rfl fun K hK => ?_
      refine CX.storeA ?_
      (refine CX.nil ?_; refine CQ.thenK ?_; apply hK; clear hK K)
      refine hwk ?_
      refine wnk ?_
      refine CC.regionI ?_
      refine CXI.ps ?_
      refine CXI.ps ?_
      refine CXI.ps ?_
      refine CXI.yieldM hY (k := k) (M := M) (vs := [.pointer none, .pointer (some ⟨gb, ob' + j * 3, none⟩)]) (by rw [List.getElem?_map, hk2]; simp [encM, atP_some]) hI ?_
      intro M' hI'
      refine CXI.ps ?_
      refine CXI.nil ?_
      refine wnk ?_
      exact CQ.round (x := (t.length, j, sa, some ⟨gb, ob' + j * 3, none⟩, k, M)) (t.length, j + 1, sa, some ⟨gb, if cb' - j = 1 then ob' + j * 3 else ob' + j * 3 + 1 * 3, none⟩, k + 1, M') ⟨by dsimp only; omega, by dsimp only; omega, (fun h => by dsimp only at h; omega), nxB, by dsimp only; omega, by dsimp only; rw [List.drop_length]; exact hm2, hI'⟩ (by dsimp only; omega) ⟨rfl, rfl, rfl, rfl, rfl, trivial⟩ (by (try simp only [Nat.sub_sub]); exact selA)
    · obtain rfl : j = l.length := by omega
      rw [List.drop_length, List.drop_length, mrg] at hm
      have : Lm.length ≤ k := by
        rcases Nat.lt_or_ge k Lm.length with h | h
        · rw [List.drop_eq_getElem_cons h] at hm; cases hm
        · exact h
      refine wk ?_
      exact CQ.endIter rfl hI (by omega)
theorem itR_c (t : List RwV) (l : List RwV) (ht : t.length ≤ 1073741824) (hl : l.length ≤ 1073741824) (a b : Option Addr) (ca cb' : Nat) (hca : t.length ≤ ca) (hcb : l.length ≤ cb') (b1 b2 b3 b4 : Nat) :
    Iter Try.prog 156 [.pointer (some ⟨b1, 0, none⟩), .pointer (some ⟨b2, 0, none⟩), .pointer (some ⟨b3, 0, none⟩), .pointer (some ⟨b4, 0, none⟩)]
      [bk b1 99 [.slice a t.length ca], bk b2 99 [.slice b l.length cb'], bk b3 162 [.func (.func 124) #[] #[]], bk b4 162 [.func (.func 124) #[] #[]]]
      (fun x => rwAt a t x ∧ rwAt b l x) ((mrg rwKey rwKey 0 t 0 l).map (encM a b 2 2)) := by
  refine Iter.intro Try.func156 rfl Try.ntmps156 rfl ?_
  rintro ly x I w ⟨hpa, hpb⟩ hY M0 hI0
  rw [List.length_map]
  generalize hL : mrg rwKey rwKey 0 t 0 l = Lm at *
  refine wk ?_
  refine CC.loop (X := Nat × Nat × Option Addr × Option Addr × Nat × List Assn)
    (fun s => [(0, .func (.yield ly) #[] #[]), (1, .pointer (some ⟨b1, 0, none⟩)), (2, .pointer (some ⟨b2, 0, none⟩)), (3, .pointer (some ⟨b3, 0, none⟩)), (4, .pointer (some ⟨b4, 0, none⟩))])
    (fun s => [many s.2.2.2.2.2, bk b1 99 [.slice s.2.2.1 (t.length - s.1) (ca - s.1)], bk b2 99 [.slice s.2.2.2.1 (l.length - s.2.1) (cb' - s.2.1)], bk b3 162 [.func (.func 124) #[] #[]], bk b4 162 [.func (.func 124) #[] #[]], exact x])
    (fun s => s.1 ≤ t.length ∧ s.2.1 ≤ l.length ∧ (s.1 < t.length → s.2.2.1 = atP a (s.1 * 2)) ∧ (s.2.1 < l.length → s.2.2.2.1 = atP b (s.2.1 * 2)) ∧ s.2.2.2.2.1 ≤ Lm.length ∧ mrg rwKey rwKey s.1 (t.drop s.1) s.2.1 (l.drop s.2.1) = Lm.drop s.2.2.2.2.1 ∧ I s.2.2.2.2.1 s.2.2.2.2.2)
    (fun s => (t.length - s.1) + (l.length - s.2.1)) (0, 0, a, b, 0, M0) ⟨Nat.zero_le _, Nat.zero_le _, fun h => by
      obtain ⟨g, o, rfl⟩ := rwAt_some hpa (by omega)
      simp [atP_some], fun h => by
      obtain ⟨g, o, rfl⟩ := rwAt_some hpb (by omega)
      simp [atP_some], Nat.zero_le _, by simpa using hL, hI0⟩ ⟨rfl, rfl, rfl, rfl, rfl, trivial⟩ (by simp only [Nat.sub_zero]; exact selA) ?_
  rintro ⟨i, j, sa, sb, k, M⟩ ⟨hi, hj, hsa, hsb, hk, hm, hI⟩
  dsimp only at hi hj hsa hsb hk hm hI ⊢
  by_cases h1 : i < t.length
  · obtain ⟨ga, oa, rfl⟩ := rwAt_some hpa (by omega)
    obtain rfl := hsa h1
    rw [atP_some]
    have eA : t.drop i = t[i] :: t.drop (i + 1) := List.drop_eq_getElem_cons h1
    have nxA : i + 1 < t.length → some (⟨ga, if ca - i = 1 then oa + i * 2 else oa + i * 2 + 1 * 2, none⟩ : Addr) = atP (some ⟨ga, oa, none⟩) ((i + 1) * 2) := fun h => by
      rw [atP_some, if_neg (by omega)]; congr 2; omega
    by_cases h2 : j < l.length
    · obtain ⟨gb, ob', rfl⟩ := rwAt_some hpb (by omega)
      obtain rfl := hsb h2
      rw [atP_some]
      have eB : l.drop j = l[j] :: l.drop (j + 1) := List.drop_eq_getElem_cons h2
      have nxB : j + 1 < l.length → some (⟨gb, if cb' - j = 1 then ob' + j * 2 else ob' + j * 2 + 1 * 2, none⟩ : Addr) = atP (some ⟨gb, ob', none⟩) ((j + 1) * 2) := fun h => by
        rw [atP_some, if_neg (by omega)]; congr 2; omega
      rw [eA, eB, mrg, ← eA, ← eB] at hm
      by_cases h3 : klt (rwKey t[i]) (rwKey l[j]) = true
      · rw [if_pos h3] at hm
        obtain ⟨hk1, hk2, hm2⟩ := drop_cons hm
        have hz : cmpZ (t[i]).key (l[j]).key = -1 := if_pos h3
        refine wk ?_
        refine CC.draw [(0, 1), (1, 1), (2, 0), (3, 1), (5, 1), (6, 1), (7, 0), (8, 1), (4, 2), (9, 2), (10, 2), (11, 0)] mixed rfl (by kernel_rfl) (by kernel_rfl) [bk b1 99 [.slice (some ⟨ga, oa + i * 2, none⟩) (t.length - i) (ca - i)], bk b2 99 [.slice (some ⟨gb, ob' + j * 2, none⟩) (l.length - j) (cb' - j)], bk b3 162 [.func (.func 124) #[] #[]], bk b4 162 [.func (.func 124) #[] #[]], exact x] ?_
        refine hwk ?_
        refine CH.pure rfl (PS.indexAddr (j := 0) rfl rfl rfl rfl (by omega)) ?_
        (apply CH.read; (· rfl); (· apply PS.loadG (vs := (t[i]).cells); (· rfl); (· rfl); (· exact hpa.cells0 (by first | exact pickA | exact updA) h1); (· rfl)); (· exact selA))
        refine hwk ?_
        refine CH.pure rfl (PS.indexAddr (j := 0) rfl rfl rfl rfl (by omega)) ?_
        (apply CH.read; (· rfl); (· apply PS.loadG (vs := (l[j]).cells); (· rfl); (· rfl); (· exact hpb.cells0 (by first | exact pickA | exact updA) h2); (· rfl)); (· exact selA))
        refine CH.chain rfl fun K hK => ?_
        refine CX.callF (k1R_c t[i]) ?_
        rintro _ _ ⟨rfl, rfl⟩
        (refine CX.nil ?_; refine CQ.thenK ?_; apply hK; (· exact selA); clear hK K)
        refine CH.chain rfl fun K hK => ?_
        refine CX.callF (k1R_c l[j]) ?_
        rintro _ _ ⟨rfl, rfl⟩
        (refine CX.nil ?_; refine CQ.thenK ?_; apply hK; (· exact selA); clear hK K)
        refine CH.chain rfl fun K hK => ?_
        refine CX.callA (cmp_c (t[i]).key (l[j]).key) ?_
        rw [hz]
        rintro _ _ ⟨rfl, rfl⟩
        (refine CX.nil ?_; refine CQ.thenK ?_; apply hK; (· exact selA); clear hK K)
        refine hwk ?_
        refine wk ?_
        refine CC.draw [(0, 1), (1, 0), (2, 1), (3, 0), (4, 0), (5, 3)] mixed rfl (by kernel_rfl) (by kernel_rfl) [bk b1 99 [.slice (some ⟨ga, oa + i * 2, none⟩) (t.length - i) (ca - i)]] ?_
        refine hwk ?_
        refine CH.pure rfl (PS.indexAddr (j := 0) rfl rfl rfl rfl (by omega)) ?_
        refine hwk ?_
        refine CH.pure rfl (PS.sliceLo (l := 1) rfl rfl rfl rfl (by omega) (by omega)) ?_
        refine hwk ?_
        refine CH.tail rfl rfl fun K hK => ?_
        refine CX.storeA ?_
        (refine CX.nil ?_; refine CQ.thenK ?_; apply hK; clear hK K)
        refine hwk ?_
        refine wnk ?_
        refine CC.region ?_
        refine wnk ?_
        refine CC.regionI ?_
        refine CXI.ps ?_
        refine CXI.ps ?_
        refine CXI.ps ?_
        refine CXI.yieldM hY (k := k) (M := M) (vs := [.pointer (some ⟨ga, oa + i * 2, none⟩), .pointer none]) (by rw [List.getElem?_map, hk2]; simp [encM, atP_some]) hI ?_
        intro M' hI'
        refine CXI.ps ?_
        refine CXI.nil ?_
        refine wnk ?_
        exact CQ.round (x := (i, j, some ⟨ga, oa + i * 2, none⟩, some ⟨gb, ob' + j * 2, none⟩, k, M)) (i + 1, j, some ⟨ga, if ca - i = 1 then oa + i * 2 else oa + i * 2 + 1 * 2, none⟩, some ⟨gb, ob' + j * 2, none⟩, k + 1, M') ⟨by dsimp only; omega, by dsimp only; omega, nxA, fun _ => by rw [atP_some], by dsimp only; omega, hm2, hI'⟩ (by dsimp only; omega) ⟨rfl, rfl, rfl, rfl, rfl, trivial⟩ (by (try simp only [Nat.sub_sub]); exact selA)
      · rw [if_neg h3] at hm
        by_cases h4 : rwKey t[i] = rwKey l[j]
        · rw [if_pos h4] at hm
          obtain ⟨hk1, hk2, hm2⟩ := drop_cons hm
          have hz : cmpZ (t[i]).key (l[j]).key = 0 := (if_neg h3).trans (if_pos h4)
          refine wk ?_
          refine CC.draw [(0, 1), (1, 1), (2, 0), (3, 1), (5, 1), (6, 1), (7, 0), (8, 1), (4, 2), (9, 2), (10, 2), (11, 0)] mixed rfl (by kernel_rfl) (by kernel_rfl) [bk b1 99 [.slice (some ⟨ga, oa + i * 2, none⟩) (t.length - i) (ca - i)], bk b2 99 [.slice (some ⟨gb, ob' + j * 2, none⟩) (l.length - j) (cb' - j)], bk b3 162 [.func (.func 124) #[] #[]], bk b4 162 [.func (.func 124) #[] #[]], exact x] ?_
          refine hwk ?_
          refine CH.pure rfl (PS.indexAddr (j := 0) rfl rfl rfl rfl (by omega)) ?_
          (apply CH.read; (· rfl); (· apply PS.loadG (vs := (t[i]).cells); (· rfl); (· rfl); (· exact hpa.cells0 (by first | exact pickA | exact updA) h1); (· rfl)); (· exact selA))
          refine hwk ?_
          refine CH.pure rfl (PS.indexAddr (j := 0) rfl rfl rfl rfl (by omega)) ?_
          (apply CH.read; (· rfl); (· apply PS.loadG (vs := (l[j]).cells); (· rfl); (· rfl); (· exact hpb.cells0 (by first | exact pickA | exact updA) h2); (· rfl)); (· exact selA))
          refine CH.chain rfl fun K hK => ?_
          refine CX.callF (k1R_c t[i]) ?_
          rintro _ _ ⟨rfl, rfl⟩
          (refine CX.nil ?_; refine CQ.thenK ?_; apply hK; (· exact selA); clear hK K)
          refine CH.chain rfl fun K hK => ?_
          refine CX.callF (k1R_c l[j]) ?_
          rintro _ _ ⟨rfl, rfl⟩
          (refine CX.nil ?_; refine CQ.thenK ?_; apply hK; (· exact selA); clear hK K)
          refine CH.chain rfl fun K hK => ?_
          refine CX.callA (cmp_c (t[i]).key (l[j]).key) ?_
          rw [hz]
          rintro _ _ ⟨rfl, rfl⟩
          (refine CX.nil ?_; refine CQ.thenK ?_; apply hK; (· exact selA); clear hK K)
          refine hwk ?_
          refine wk ?_
          refine CC.draw [(0, 1), (1, 0), (2, 1), (3, 0), (4, 0), (5, 3)] mixed rfl (by kernel_rfl) (by kernel_rfl) [bk b1 99 [.slice (some ⟨ga, oa + i * 2, none⟩) (t.length - i) (ca - i)]] ?_
          refine hwk ?_
          refine CH.pure rfl (PS.indexAddr (j := 0) rfl rfl rfl rfl (by omega)) ?_
          refine hwk ?_
          refine CH.pure rfl (PS.sliceLo (l := 1) rfl rfl rfl rfl (by omega) (by omega)) ?_
          refine hwk ?_
          refine CH.tail rfl rfl fun K hK => ?_
          refine CX.storeA ?_
          (refine CX.nil ?_; refine CQ.thenK ?_; apply hK; clear hK K)
          refine hwk ?_
          refine wnk ?_
          refine CC.region ?_
          refine wnk ?_
          refine CC.draw [(0, 1), (1, 0), (2, 1), (3, 0), (4, 0), (5, 3)] mixed rfl (by kernel_rfl) (by kernel_rfl) [bk b2 99 [.slice (some ⟨gb, ob' + j * 2, none⟩) (l.length - j) (cb' - j)]] ?_
          refine hwk ?_
          refine CH.pure rfl (PS.indexAddr (j := 0) rfl rfl rfl rfl (by omega)) ?_
          refine hwk ?_
          refine CH.pure rfl (PS.sliceLo (l := 1) rfl rfl rfl rfl (by omega) (by omega)) ?_
          refine hwk ?_
          refine CH.tail rfl rfl fun K hK => ?_
          refine CX.storeA ?_
          (refine CX.nil ?_; refine CQ.thenK ?_; apply hK; clear hK K)
          refine hwk ?_
          refine wnk ?_
          refine CC.regionI ?_
          refine CXI.ps ?_
          refine CXI.ps ?_
          refine CXI.ps ?_
          refine CXI.yieldM hY (k := k) (M := M) (vs := [.pointer (some ⟨ga, oa + i * 2, none⟩), .pointer (some ⟨gb, ob' + j * 2, none⟩)]) (by rw [List.getElem?_map, hk2]; simp [encM, atP_some]) hI ?_
          intro M' hI'
          refine CXI.ps ?_
          refine CXI.nil ?_
          refine wnk ?_
          exact CQ.round (x := (i, j, some ⟨ga, oa + i * 2, none⟩, some ⟨gb, ob' + j * 2, none⟩, k, M)) (i + 1, j + 1, some ⟨ga, if ca - i = 1 then oa + i * 2 else oa + i * 2 + 1 * 2, none⟩, some ⟨gb, if cb' - j = 1 then ob' + j * 2 else ob' + j * 2 + 1 * 2, none⟩, k + 1, M') ⟨by dsimp only; omega, by dsimp only; omega, nxA, nxB, by dsimp only; omega, hm2, hI'⟩ (by dsimp only; omega) ⟨rfl, rfl, rfl, rfl, rfl, trivial⟩ (by (try simp only [Nat.sub_sub]); exact selA)
        · rw [if_neg h4] at hm
          obtain ⟨hk1, hk2, hm2⟩ := drop_cons hm
          have hz : cmpZ (t[i]).key (l[j]).key = 1 := (if_neg h3).trans (if_neg h4)
          refine wk ?_
          refine CC.draw [(0, 1), (1, 1), (2, 0), (3, 1), (5, 1), (6, 1), (7, 0), (8, 1), (4, 2), (9, 2), (10, 2), (11, 0)] mixed rfl (by kernel_rfl) (by kernel_rfl) [bk b1 99 [.slice (some ⟨ga, oa + i * 2, none⟩) (t.length - i) (ca - i)], bk b2 99 [.slice (some ⟨gb, ob' + j * 2, none⟩) (l.length - j) (cb' - j)], bk b3 162 [.func (.func 124) #[] #[]], bk b4 162 [.func (.func 124) #[] #[]], exact x] ?_
          refine hwk ?_
          refine CH.pure rfl (PS.indexAddr (j := 0) rfl rfl rfl rfl (by omega)) ?_
          (apply CH.read; (· rfl); (· apply PS.loadG (vs := (t[i]).cells); (· rfl); (· rfl); (· exact hpa.cells0 (by first | exact pickA | exact updA) h1); (· rfl)); (· exact selA))
          refine hwk ?_
          refine CH.pure rfl (PS.indexAddr (j := 0) rfl rfl rfl rfl (by omega)) ?_
          (apply CH.read; (· rfl); (· apply PS.loadG (vs := (l[j]).cells); (· rfl); (· rfl); (· exact hpb.cells0 (by first | exact pickA | exact updA) h2); (· rfl)); (· exact selA))
          refine CH.chain rfl fun K hK => ?_
          refine CX.callF (k1R_c t[i]) ?_
          rintro _ _ ⟨rfl, rfl⟩
          (refine CX.nil ?_; refine CQ.thenK ?_; apply hK; (· exact selA); clear hK K)
          refine CH.chain rfl fun K hK => ?_
          refine CX.callF (k1R_c l[j]) ?_
          rintro _ _ ⟨rfl, rfl⟩
          (refine CX.nil ?_; refine CQ.thenK ?_; apply hK; (· exact selA); clear hK K)
          refine CH.chain rfl fun K hK => ?_
          refine CX.callA (cmp_c (t[i]).key (l[j]).key) ?_
          rw [hz]
          rintro _ _ ⟨rfl, rfl⟩
          (refine CX.nil ?_; refine CQ.thenK ?_; apply hK; (· exact selA); clear hK K)
          refine hwk ?_
          refine wk ?_
          refine CC.draw [(0, 1), (1, 0), (2, 1), (3, 0), (4, 0), (5, 3)] mixed rfl (by kernel_rfl) (by kernel_rfl) [bk b2 99 [.slice (some ⟨gb, ob' + j * 2, none⟩) (l.length - j) (cb' - j)]] ?_
          refine hwk ?_
          refine CH.pure rfl (PS.indexAddr (j := 0) rfl rfl rfl rfl (by omega)) ?_
          refine hwk ?_
          refine CH.pure rfl (PS.sliceLo (l := 1) rfl rfl rfl rfl (by omega) (by omega)) ?_
          refine hwk ?_
          refine CH.tail rfl rfl fun K hK => ?_
          refine CX.storeA ?_
          (refine CX.nil ?_; refine CQ.thenK ?_; apply hK; clear hK K)
          refine hwk ?_
          refine wnk ?_
          refine CC.regionI ?_
          refine CXI.ps ?_
          refine CXI.ps ?_
          refine CXI.ps ?_
          refine CXI.yieldM hY (k := k) (M := M) (vs := [.pointer none, .pointer (some ⟨gb, ob' + j * 2, none⟩)]) (by rw [List.getElem?_map, hk2]; simp [encM, atP_some]) hI ?_
          intro M' hI'
          refine CXI.ps ?_
          refine CXI.nil ?_
          refine wnk ?_
          exact CQ.round (x := (i, j, some ⟨ga, oa + i * 2, none⟩, some ⟨gb, ob' + j * 2, none⟩, k, M)) (i, j + 1, some ⟨ga, oa + i * 2, none⟩, some ⟨gb, if cb' - j = 1 then ob' + j * 2 else ob' + j * 2 + 1 * 2, none⟩, k + 1, M') ⟨by dsimp only; omega, by dsimp only; omega, (fun _ => by rw [atP_some]), nxB, by dsimp only; omega, hm2, hI'⟩ (by dsimp only; omega) ⟨rfl, rfl, rfl, rfl, rfl, trivial⟩ (by (try simp only [Nat.sub_sub]); exact selA)
    · obtain rfl : j = l.length := by omega
      rw [eA, List.drop_length, mrg] at hm
      obtain ⟨hk1, hk2, hm2⟩ := drop_cons hm
      refine wk ?_
      refine CC.draw [(0, 1), (1, 0), (2, 1), (3, 0), (4, 0), (5, 3)] mixed rfl (by kernel_rfl) (by kernel_rfl) [bk b1 99 [.slice (some ⟨ga, oa + i * 2, none⟩) (t.length - i) (ca - i)]] ?_
      refine hwk ?_
      refine CH.pure rfl (PS.indexAddr (j := 0) rfl rfl rfl rfl (by omega)) ?_
      refine hwk ?_
      refine CH.pure rfl (PS.sliceLo (l := 1) rfl rfl rfl rfl (by omega) (by omega)) ?_
      refine hwk ?_
      refine CH.tail rfl rfl fun K hK => ?_
      refine CX.storeA ?_
      (refine CX.nil ?_; refine CQ.thenK ?_; apply hK; clear hK K)
      refine hwk ?_
      refine wnk ?_
      refine CC.region ?_
      refine wnk ?_
      refine CC.regionI ?_
      refine CXI.ps ?_
      refine CXI.ps ?_
      refine CXI.ps ?_
      refine CXI.yieldM hY (k := k) (M := M) (vs := [.pointer (some ⟨ga, oa + i * 2, none⟩), .pointer none]) (by rw [List.getElem?_map, hk2]; simp [encM, atP_some]) hI ?_
      intro M' hI'
      refine CXI.ps ?_
      refine CXI.nil ?_
      refine wnk ?_
      exact CQ.round (x := (i, l.length, some ⟨ga, oa + i * 2, none⟩, sb, k, M)) (i + 1, l.length, some ⟨ga, if ca - i = 1 then oa + i * 2 else oa + i * 2 + 1 * 2, none⟩, sb, k + 1, M') ⟨by dsimp only; omega, by dsimp only; omega, nxA, (fun h => by dsimp only at h; omega), by dsimp only; omega, by dsimp only; rw [List.drop_length]; exact hm2, hI'⟩ (by dsimp only; omega) ⟨rfl, rfl, rfl, rfl, rfl, trivial⟩ (by (try simp only [Nat.sub_sub]); exact selA)
  · obtain rfl : i = t.length := by omega
    by_cases h2 : j < l.length
    · obtain ⟨gb, ob', rfl⟩ := rwAt_some hpb (by omega)
      obtain rfl := hsb h2
      rw [atP_some]
      have eB : l.drop j = l[j] :: l.drop (j + 1) := List.drop_eq_getElem_cons h2
      have nxB : j + 1 < l.length → some (⟨gb, if cb' - j = 1 then ob' + j * 2 else ob' + j * 2 + 1 * 2, none⟩ : Addr) = atP (some ⟨gb, ob', none⟩) ((j + 1) * 2) := fun h => by
        rw [atP_some, if_neg (by omega)]; congr 2; omega
      rw [eB, List.drop_length, mrg] at hm
      obtain ⟨hk1, hk2, hm2⟩ := drop_cons hm
      refine wk ?_
      refine CC.draw [(0, 1), (1, 0), (2, 1), (3, 0), (4, 0), (5, 3)] mixed rfl (by kernel_rfl) (by kernel_rfl) [bk b2 99 [.slice (some ⟨gb, ob' + j * 2, none⟩) (l.length - j) (cb' - j)]] ?_
      refine hwk ?_
      refine CH.pure rfl (PS.indexAddr (j := 0) rfl rfl rfl rfl (by omega)) ?_
      refine hwk ?_
      refine CH.pure rfl (PS.sliceLo (l := 1) rfl rfl rfl rfl (by omega) (by omega)) ?_
      refine hwk ?_
      refine CH.tail rfl rfl fun K hK => ?_
      refine CX.storeA ?_
      (refine CX.nil ?_; refine CQ.thenK ?_; apply hK; clear hK K)
      refine hwk ?_
      refine wnk ?_
      refine CC.regionI ?_
      refine CXI.ps ?_
      refine CXI.ps ?_
      refine CXI.ps ?_
      refine CXI.yieldM hY (k := k) (M := M) (vs := [.pointer none, .pointer (some ⟨gb, ob' + j * 2, none⟩)]) (by rw [List.getElem?_map, hk2]; simp [encM, atP_some]) hI ?_
      intro M' hI'
      refine CXI.ps ?_
      refine CXI.nil ?_
      refine wnk ?_
      exact CQ.round (x := (t.length, j, sa, some ⟨gb, ob' + j * 2, none⟩, k, M)) (t.length, j + 1, sa, some ⟨gb, if cb' - j = 1 then ob' + j * 2 else ob' + j * 2 + 1 * 2, none⟩, k + 1, M') ⟨by dsimp only; omega, by dsimp only; omega, (fun h => by dsimp only at h; omega), nxB, by dsimp only; omega, by dsimp only; rw [List.drop_length]; exact hm2, hI'⟩ (by dsimp only; omega) ⟨rfl, rfl, rfl, rfl, rfl, trivial⟩ (by (try simp only [Nat.sub_sub]); exact selA)
    · obtain rfl : j = l.length := by omega
      rw [List.drop_length, List.drop_length, mrg] at hm
      have : Lm.length ≤ k := by
        rcases Nat.lt_or_ge k Lm.length with h | h
        · rw [List.drop_eq_getElem_cons h] at hm; cases hm
        · exact h
      refine wk ?_
      exact CQ.endIter rfl hI (by omega)
end Go.Proofs.Ytlckhaodecdbbaa
/-! Heads: plain laws. No program in sight. -/
namespace Go.Cx
/-! ### Heads -/
structure HdM where
  bank : Nat
  blocks : Nat
  batches : Nat
deriving DecidableEq
def HdM.z : HdM := ⟨0, 0, 0⟩
structure HdM.ok (h : HdM) : Prop where
  bank : h.bank < 256
  blocks : h.blocks < 4294967296
  batches : h.batches < 4294967296
def HdM.may (h : HdM) : Prop := h.bank < 2 ∧ h.blocks ≤ 4096 ∧ h.batches ≤ h.blocks
instance (h : HdM) : Decidable h.may := by unfold HdM.may; infer_instance
def HdM.bytes (h : HdM) : Blk := le 1 h.bank ++ (le 4 h.blocks ++ le 4 h.batches)
def ofBody (b : Blk) : HdM := ⟨ofLe (b.take 1), ofLe ((b.drop 1).take 4), ofLe ((b.drop 5).take 4)⟩
def most : Nat := 4611686018427387904
def putH (n : Nat) (h : HdM) : Blk × Int := if n = 0 ∨ most < n ∨ ¬ h.may then (zblk, 2) else (sealB n h.bytes, 0)
def getH (b : Blk) : Nat × HdM × Int :=
  if (getM b).2.2 ≠ 0 then (0, HdM.z, (getM b).2.2)
  else if most < (getM b).1 ∨ ¬ (ofBody (getM b).2.1).may ∨ ∃ c ∈ (getM b).2.1.drop 9, c ≠ 0 then (0, HdM.z, 5)
  else ((getM b).1, ofBody (getM b).2.1, 0)
def newH (a b : Blk) : Nat × HdM × Int :=
  if (getH a).2.2 ≠ 0 ∧ (getH b).2.2 ≠ 0 then (0, HdM.z, 7)
  else if (getH a).2.2 ≠ 0 ∨ ((getH b).2.2 = 0 ∧ (getH a).1 < (getH b).1) then ((getH b).1, (getH b).2.1, 0)
  else ((getH a).1, (getH a).2.1, 0)
theorem bytes_len (h : HdM) : h.bytes.length = 9 := by simp [HdM.bytes]
theorem may_ok {h : HdM} (m : h.may) : h.ok := by unfold HdM.may at m; exact ⟨by omega, by omega, by omega⟩
theorem ofBody_bytes {h : HdM} (o : h.ok) (r : Blk) : ofBody (h.bytes ++ r) = h := by
  obtain ⟨a, b, c⟩ := h
  have o1 := o.bank
  have o2 := o.blocks
  have o3 := o.batches
  simp only at o1 o2 o3
  have e1 : (HdM.bytes ⟨a, b, c⟩ ++ r).take 1 = le 1 a := by simp [HdM.bytes]
  have e2 : ((HdM.bytes ⟨a, b, c⟩ ++ r).drop 1).take 4 = le 4 b := by simp [HdM.bytes, List.drop_append, List.take_append]
  have e3 : ((HdM.bytes ⟨a, b, c⟩ ++ r).drop 5).take 4 = le 4 c := by simp [HdM.bytes, List.drop_append, List.take_append]
  rw [ofBody, e1, e2, e3, ofLe_le 1 a (by omega), ofLe_le 4 b (by omega), ofLe_le 4 c (by omega)]
theorem bytes_ofBody {b : Blk} (h : 9 ≤ b.length) : (ofBody b).bytes = b.take 9 := by
  unfold ofBody HdM.bytes
  have f : ∀ (c : Blk) (k : Nat), c.length = k → le k (ofLe c) = c := fun c k e => by subst e; exact le_ofLe c
  simp only [f (b.take 1) 1 (by simp; omega), f ((b.drop 1).take 4) 4 (by simp; omega), f ((b.drop 5).take 4) 4 (by simp; omega)]
  rw [show 9 = 1 + 8 from rfl, List.take_add, show 8 = 4 + 4 from rfl, List.take_add, List.drop_drop]
theorem ofBody_ok (b : Blk) : (ofBody b).ok := by
  unfold ofBody
  have f : ∀ (c : Blk) (k : Nat), ofLe (c.take k) < 256 ^ k := fun c k =>
    Nat.lt_of_lt_of_le (ofLe_lt (c.take k)) (Nat.pow_le_pow_right (by omega) (by simp; omega))
  exact ⟨f b 1, f _ 4, f _ 4⟩
theorem zeros_of {l : Blk} (h : ¬ ∃ c ∈ l, c ≠ 0) : l = List.replicate l.length 0 := by
  apply List.eq_replicate_of_mem
  intro c hc
  exact Decidable.byContradiction fun e => h ⟨c, hc, e⟩
theorem pad_bytes (h : HdM) : padB 108 h.bytes = h.bytes ++ List.replicate 99 0 := by simp [padB, bytes_len]
theorem get_put {n : Nat} {h : HdM} (h0 : (putH n h).2 = 0) : 1 ≤ n ∧ n ≤ most ∧ h.may ∧ (putH n h).1 = sealB n h.bytes ∧ getH (putH n h).1 = (n, h, 0) := by
  unfold putH at h0 ⊢
  split at h0
  · simp at h0
  rename_i hc
  rw [if_neg hc]
  have hm : h.may := Decidable.byContradiction fun e => hc (.inr (.inr e))
  have h1 : 1 ≤ n := by omega
  have h2 : n ≤ most := by omega
  refine ⟨h1, h2, hm, rfl, ?_⟩
  have g := get_sealB (n := n) (b := h.bytes) h1 (by simp only [most, top] at *; omega) (by rw [bytes_len]; omega)
  have e := ofBody_bytes (may_ok hm) (List.replicate 99 0)
  unfold getH
  simp only [g, pad_bytes, e]
  rw [if_neg (by simp), if_neg]
  rintro (a | a | ⟨c, hc, a⟩)
  · omega
  · exact a hm
  · rw [List.drop_append, bytes_len] at hc
    have : List.drop 9 h.bytes = [] := List.drop_of_length_le (by rw [bytes_len]; omega)
    simp [this] at hc
    exact a hc
theorem put_err (n : Nat) (h : HdM) : (putH n h).2 = 0 ∨ (putH n h = (zblk, 2) ∧ ¬ (1 ≤ n ∧ n ≤ most ∧ h.may)) := by
  unfold putH
  split
  · rename_i hc; exact .inr ⟨rfl, fun ⟨a, b, c⟩ => by rcases hc with h | h | h <;> first | omega | exact h c⟩
  · exact .inl rfl
theorem put_iff (n : Nat) (h : HdM) : (putH n h).2 = 0 ↔ 1 ≤ n ∧ n ≤ most ∧ h.may := by
  constructor
  · intro h0; have := get_put h0; exact ⟨this.1, this.2.1, this.2.2.1⟩
  · rintro ⟨a, b, c⟩; unfold putH; rw [if_neg]; rintro (h | h | h) <;> first | omega | exact h c
/-- What is got is put as the same block. -/
theorem put_get {b : Blk} (w : WB b) (h0 : (getH b).2.2 = 0) : 1 ≤ (getH b).1 ∧ (getH b).1 ≤ most ∧ (getH b).2.1.may ∧ sealB (getH b).1 (getH b).2.1.bytes = b := by
  unfold getH at h0 ⊢
  by_cases hg : (getM b).2.2 = 0
  · simp only [hg, ne_eq, not_true_eq_false, if_false] at h0 ⊢
    split at h0
    · simp at h0
    rename_i hc
    rw [if_neg hc]
    have v := get_valid hg
    have g := get_ok v
    have hm : (ofBody (getM b).2.1).may := Decidable.byContradiction fun e => hc (.inr (.inl e))
    have hz : ¬ ∃ c ∈ (getM b).2.1.drop 9, c ≠ 0 := fun e => hc (.inr (.inr e))
    have hn : (getM b).1 ≤ most := by omega
    rw [g] at hm hz hn ⊢
    dsimp only at hm hz hn ⊢
    have w' : b.length = 128 := w
    refine ⟨v.num, hn, hm, ?_⟩
    have e := valid_eq w v
    conv => rhs; rw [e]
    have hl : ((b.drop 8).take 108).length = 108 := by simp; omega
    have z := zeros_of hz
    have p : padB 108 (ofBody ((b.drop 8).take 108)).bytes = padB 108 ((b.drop 8).take 108) := by
      rw [pad_bytes, bytes_ofBody (by omega)]
      have : ((b.drop 8).take 108).drop 9 = List.replicate 99 0 := by rw [z]; congr 1; simp; omega
      rw [← this, List.take_append_drop, padB, hl]; simp
    unfold sealB frontB
    rw [p]
  · rw [if_pos hg] at h0; exact absurd h0 hg
theorem get_err (b : Blk) : (getH b).2.2 = 0 ∨ (getH b).1 = 0 ∧ (getH b).2.1 = HdM.z := by
  unfold getH
  split
  · exact .inr ⟨rfl, rfl⟩
  · split
    · exact .inr ⟨rfl, rfl⟩
    · exact .inl rfl
/-- The document's way: what is put again is the same. -/
theorem getH_eq {b : Blk} (w : WB b) : getH b = if (getM b).2.2 ≠ 0 then (0, HdM.z, (getM b).2.2)
    else if (putH (getM b).1 (ofBody (getM b).2.1)).2 ≠ 0 ∨ (putH (getM b).1 (ofBody (getM b).2.1)).1 ≠ b then (0, HdM.z, 5) else ((getM b).1, ofBody (getM b).2.1, 0) := by
  by_cases hg : (getM b).2.2 = 0
  · by_cases h0 : (getH b).2.2 = 0
    · have hp := put_get w h0
      have e : getH b = ((getM b).1, ofBody (getM b).2.1, 0) := by
        unfold getH at h0 ⊢
        rw [if_neg (by simp [hg])] at h0 ⊢
        split at h0
        · simp at h0
        · rename_i hc; rw [if_neg hc]
      rw [e] at hp
      dsimp only at hp
      have h1 := (put_iff (getM b).1 (ofBody (getM b).2.1)).2 ⟨hp.1, hp.2.1, hp.2.2.1⟩
      have h2 := (get_put h1).2.2.2.1
      rw [e, if_neg (by simp [hg]), if_neg]
      rintro (a | a)
      · exact a h1
      · exact a (by rw [h2]; exact hp.2.2.2)
    · have e : getH b = (0, HdM.z, 5) := by
        unfold getH at h0 ⊢
        rw [if_neg (by simp [hg])] at h0 ⊢
        split
        · rfl
        · rename_i hc; rw [if_neg hc] at h0; simp at h0
      rw [e, if_neg (by simp [hg]), if_pos]
      by_cases h1 : (putH (getM b).1 (ofBody (getM b).2.1)).2 = 0
      · right
        intro h2
        have := (get_put h1).2.2.2.2
        rw [h2] at this
        rw [this] at h0
        simp at h0
      · exact .inl h1
  · have hg' : (getM b).2.2 ≠ 0 := hg
    rw [if_pos hg']; unfold getH; rw [if_pos hg']
/-- Its way to the newest. -/
theorem newH_eq (a b : Blk) : newH a b = if (getH a).2.2 ≠ 0 ∧ (getH b).2.2 ≠ 0 then (0, HdM.z, 7) else if (getH a).1 < (getH b).1 then ((getH b).1, (getH b).2.1, 0) else ((getH a).1, (getH a).2.1, 0) := by
  unfold newH
  split
  · rfl
  rename_i hc
  have h1 : (getH b).2.2 = 0 → 1 ≤ (getH b).1 ∨ True := fun _ => .inr trivial
  have pos : ∀ c, (getH c).2.2 = 0 → 1 ≤ (getH c).1 := fun c h => by
    unfold getH at h ⊢
    by_cases hg : (getM c).2.2 = 0
    · rw [if_neg (by simp [hg])] at h ⊢
      split at h
      · simp at h
      · rename_i hc; rw [if_neg hc]; dsimp only; rw [get_ok (get_valid hg)]; exact (get_valid hg).num
    · have hg' : (getM c).2.2 ≠ 0 := hg
      rw [if_pos hg'] at h; exact absurd h hg
  rcases get_err a with ha | ⟨ha1, ha2⟩
  · rcases get_err b with hb | ⟨hb1, hb2⟩
    · simp [ha, hb]
    · by_cases hb : (getH b).2.2 = 0
      · simp [ha, hb]
      · have := pos a ha
        simp [ha, hb, hb1]
  · by_cases ha : (getH a).2.2 = 0
    · have := pos a ha; omega
    · have hb : (getH b).2.2 = 0 := Decidable.byContradiction fun e => hc ⟨ha, e⟩
      have := pos b hb
      rw [if_pos (.inl ha), if_pos (by omega)]
end Go.Cx
/-! Sealed blocks (seal), in the program. -/
namespace Go.Cx
def ins (B : Blk) (f : Nat) (c : Blk) : Blk := B.take f ++ (c ++ B.drop (f + c.length))
theorem ins_len {B c : Blk} {f : Nat} (h : f + c.length ≤ B.length) : (ins B f c).length = B.length := by simp [ins]; omega
theorem ins_mid (A c r : Blk) (k f : Nat) (hf : A.length = f) (hc : c.length ≤ k) : ins (A ++ (List.replicate k 0 ++ r)) f c = A ++ (c ++ (List.replicate (k - c.length) 0 ++ r)) := by
  subst hf
  have h1 : (A ++ (List.replicate k 0 ++ r)).take A.length = A := by simp
  have h2 : (A ++ (List.replicate k 0 ++ r)).drop (A.length + c.length) = List.replicate (k - c.length) 0 ++ r := by
    rw [← List.drop_drop, List.drop_left, List.drop_append_of_le_length (by simp; omega)]; simp
  rw [ins, h1, h2]
def seal1 (n : Nat) : Blk := ins zblk 0 (le 8 n)
def seal2 (n : Nat) (b : Blk) : Blk := ins (seal1 n) 8 b
def seal3 (n : Nat) (b : Blk) : Blk := ins (seal2 n b) 116 (le 4 (crcM ((seal2 n b).take 116)))
theorem seal1_eq (n : Nat) : seal1 n = le 8 n ++ (List.replicate 108 0 ++ List.replicate 12 0) := by
  have := ins_mid [] (le 8 n) [] 128 0 rfl (by simp)
  simp only [List.nil_append, List.append_nil, length_le] at this
  rw [seal1, zblk, this]; congr 1
theorem seal2_eq {n : Nat} {b : Blk} (h : b.length ≤ 108) : seal2 n b = frontB n b ++ (List.replicate 4 0 ++ List.replicate 8 0) := by
  rw [seal2, seal1_eq, ins_mid _ _ _ _ _ (by simp) h, frontB, padB]
  simp
theorem seal3_eq {n : Nat} {b : Blk} (h : b.length ≤ 108) : (seal2 n b).take 116 = frontB n b ∧ seal3 n b = frontB n b ++ (le 4 (crcM (frontB n b)) ++ (List.replicate 8 0 ++ [])) := by
  have e : (seal2 n b).take 116 = frontB n b := by
    rw [seal2_eq h, List.take_append_of_le_length (by rw [front_len h]; omega), List.take_of_length_le (by rw [front_len h]; omega)]
  refine ⟨e, ?_⟩
  have := ins_mid (frontB n b) (le 4 (crcM (frontB n b))) (List.replicate 8 0) 4 116 (front_len h) (by simp)
  rw [seal3, e, seal2_eq h, this]; simp
theorem seal4_eq {n : Nat} {b : Blk} (h : b.length ≤ 108) : ins (seal3 n b) 120 (le 8 (top - n)) = sealB n b := by
  have := ins_mid (frontB n b ++ le 4 (crcM (frontB n b))) (le 8 (top - n)) [] 8 120 (by simp [front_len h]) (by simp)
  rw [(seal3_eq h).2, ← List.append_assoc, this, sealB]; simp
theorem seal_WB {n : Nat} {b : Blk} (h : b.length ≤ 108) : WB (seal1 n) ∧ WB (seal2 n b) ∧ WB (seal3 n b) := by
  refine ⟨?_, ?_, ?_⟩
  · rw [seal1_eq]; simp [WB]
  · rw [seal2_eq h]; simp [WB, front_len h]
  · rw [(seal3_eq h).2]; simp [WB, front_len h]
def newestM (a b : Blk) : Int × Int := if (getM a).1 = 0 ∧ (getM b).1 = 0 then (0, 7) else if (getM a).1 < (getM b).1 then (1, 0) else (0, 0)
def nextM (a b : Blk) : Int := if (getM a).1 = 0 ∧ (getM b).1 = 0 then 0 else if (getM a).1 < (getM b).1 then 0 else 1
theorem getM_lt (b : Blk) : (getM b).1 < 18446744073709551616 := by
  unfold getM
  split
  · omega
  split
  · omega
  · have := ofLe_lt (b.take 8)
    have h2 : 256 ^ (b.take 8).length ≤ 256 ^ 8 := Nat.pow_le_pow_right (by omega) (by simp; omega)
    exact Nat.lt_of_lt_of_le this h2
theorem or_zero {n m : Nat} (h : n = 0 ∧ m = 0) : n ||| m = 0 := by rw [h.1, h.2]; rfl
theorem or_nz {n m : Nat} (h : ¬ (n = 0 ∧ m = 0)) : 0 < n ||| m := by
  have h1 := Nat.left_le_or (n := n) (m := m)
  have h2 := Nat.right_le_or (n := n) (m := m)
  omega
theorem getN_0 {B : Blk} {k : Nat} (hk : k = 1 ∨ k = 2 ∨ k = 4 ∨ k = 8) (h : B.length = k) : getN B 0 (k : Int) = (ofLe B, 0) := by
  unfold getN
  rw [if_neg (by unfold okSize; omega), if_neg (by omega)]
  simp [List.take_of_length_le (show B.length ≤ k by omega)]
end Go.Cx
namespace Go.Proofs.Ytlckhaodecdbbaa
open Go.Cx
attribute [local irreducible] Go.Cx.CX Go.Cx.CC Go.Cx.CQ Go.Cx.PS Go.Cx.Ctr Go.Cx.CH
set_option maxRecDepth 10000
theorem sbegin_c : Ctr Try.prog 88 [] [] (fun _ => True) (fun v M => v = .agg #[.int .i64 0, .int .i64 8] ∧ M = []) := by
  refine Ctr.intro Try.func88 rfl Try.ntmps88 rfl fun x w hp => ?_
  refine wk ?_
  (refine CX.allocA ?_; intro r)
  refine wk ?_
  (apply CX.ps; (· apply PS.build (out := [.int .i64 0, .int .i64 8]); (· rfl); (· rfl); (· rfl)))
  (refine CX.storeB (vs := [.int .i64 0, .int .i64 8]) ?_ ?_ ?_ ?_; (· rfl); (· rfl); (· exact one_all rfl))
  refine wk ?_
  ((apply CQ.end1; (· rfl); (· exact .cells inferInstance rfl (CellsAt.all (by first | exact pickA | exact updA)) (rfl))); (· exact ⟨rfl, rfl⟩); (· exact selA))
theorem sinner_c : Ctr Try.prog 90 [] [] (fun _ => True) (fun v M => v = .agg #[.int .i64 8, .int .i64 116] ∧ M = []) := by
  refine Ctr.intro Try.func90 rfl Try.ntmps90 rfl fun x w hp => ?_
  refine wk ?_
  (refine CX.allocA ?_; intro r)
  refine wk ?_
  (apply CX.ps; (· apply PS.build (out := [.int .i64 8, .int .i64 116]); (· rfl); (· rfl); (· rfl)))
  (refine CX.storeB (vs := [.int .i64 8, .int .i64 116]) ?_ ?_ ?_ ?_; (· rfl); (· rfl); (· exact one_all rfl))
  refine wk ?_
  ((apply CQ.end1; (· rfl); (· exact .cells inferInstance rfl (CellsAt.all (by first | exact pickA | exact updA)) (rfl))); (· exact ⟨rfl, rfl⟩); (· exact selA))
theorem scheck_c : Ctr Try.prog 92 [] [] (fun _ => True) (fun v M => v = .agg #[.int .i64 116, .int .i64 120] ∧ M = []) := by
  refine Ctr.intro Try.func92 rfl Try.ntmps92 rfl fun x w hp => ?_
  refine wk ?_
  (refine CX.allocA ?_; intro r)
  refine wk ?_
  (apply CX.ps; (· apply PS.build (out := [.int .i64 116, .int .i64 120]); (· rfl); (· rfl); (· rfl)))
  (refine CX.storeB (vs := [.int .i64 116, .int .i64 120]) ?_ ?_ ?_ ?_; (· rfl); (· rfl); (· exact one_all rfl))
  refine wk ?_
  ((apply CQ.end1; (· rfl); (· exact .cells inferInstance rfl (CellsAt.all (by first | exact pickA | exact updA)) (rfl))); (· exact ⟨rfl, rfl⟩); (· exact selA))
theorem send_c : Ctr Try.prog 94 [] [] (fun _ => True) (fun v M => v = .agg #[.int .i64 120, .int .i64 128] ∧ M = []) := by
  refine Ctr.intro Try.func94 rfl Try.ntmps94 rfl fun x w hp => ?_
  refine wk ?_
  (refine CX.allocA ?_; intro r)
  refine wk ?_
  (apply CX.ps; (· apply PS.build (out := [.int .i64 120, .int .i64 128]); (· rfl); (· rfl); (· rfl)))
  (refine CX.storeB (vs := [.int .i64 120, .int .i64 128]) ?_ ?_ ?_ ?_; (· rfl); (· rfl); (· exact one_all rfl))
  refine wk ?_
  ((apply CQ.end1; (· rfl); (· exact .cells inferInstance rfl (CellsAt.all (by first | exact pickA | exact updA)) (rfl))); (· exact ⟨rfl, rfl⟩); (· exact selA))
theorem spof_c (b f k : Nat) (h0 : 0 < k) (h : f + k ≤ 128) : Ctr Try.prog 91 [.agg #[.int .i64 (f : Int), .int .i64 ((f + k : Nat) : Int)], .pointer (some ⟨b, 0, none⟩)] [] (fun _ => True)
    (fun v M => v = .slice (some ⟨b, f, none⟩) k k ∧ M = []) := by
  have e : cutAt (some ⟨b, 0, none⟩) f (f + k) 1 = some ⟨b, f, none⟩ := by unfold cutAt; rw [if_neg (by omega)]; simp [addr_add]
  have e2 : f + k - f = k := by omega
  refine Ctr.intro Try.func91 rfl Try.ntmps91 rfl fun x w hp => ?_
  refine wk ?_
  refine CX.boxA (vs := [.int .i64 (f : Int), .int .i64 ((f + k : Nat) : Int)]) ?_
  intro t
  refine wk ?_
  refine CC.draw [(0, 0), (1, 0), (2, 0), (3, 1), (4, 0), (5, 1), (6, 0), (7, 1), (8, 0), (9, 0)] mixed rfl (by kernel_rfl) (by kernel_rfl) [bk t 129 [.int .i64 (f : Int), .int .i64 ((f + k : Nat) : Int)]] ?_
  refine hwk ?_
  (apply CH.pure; (· rfl); (· apply PS.sliceArr3 (l := f) (h := f + k) (m := f + k); (· rfl); (· rfl); (· rfl); (· rfl); (· rfl); (· exact .inr ⟨_, rfl⟩); (· exact ⟨_, rfl⟩); (· omega); (· omega); (· omega)))
  rw [e, e2]
  refine hwk ?_
  refine wk ?_
  ((apply CQ.end1; (· rfl); (· exact .tmp rfl)); (· exact ⟨rfl, rfl⟩); (· exact selA))
theorem spput_c (b t f k n : Nat) (B : Blk) (hB : WB B) (hk : k = 4 ∨ k = 8) (h : f + k ≤ 128) (hn : n < 256 ^ k) : Ctr Try.prog 89 [.agg #[.int .i64 (f : Int), .int .i64 ((f + k : Nat) : Int)], .pointer (some ⟨b, 0, none⟩), .int .u64 (n : Int)] [bk b t (cb B)] (fun _ => True)
    (fun v M => v = .tuple #[] ∧ M = [bk b t (cb (ins B f (le k n)))]) := by
  have hB' : B.length = 128 := hB
  refine Ctr.intro Try.func89 rfl Try.ntmps89 rfl fun x w hp => ?_
  refine wk ?_
  refine CX.boxA (vs := [.int .i64 (f : Int), .int .i64 ((f + k : Nat) : Int)]) ?_
  intro q
  refine wk ?_
  have e : ((f + k : Nat) : Int) - (f : Int) = (k : Int) := by omega
  rw [e]
  refine CX.callA (nput_c n k (by omega) hn) ?_
  rintro _ _ ⟨c, rfl, rfl⟩
  refine wk ?_
  (apply CX.ps; (· apply PS.loadG (vs := [.int .i64 (f : Int), .int .i64 ((f + k : Nat) : Int)]); (· rfl); (· rfl); (· exact CellsAt.all (by first | exact pickA | exact updA)); (· rfl)))
  refine wk ?_
  refine CX.callA (spof_c b f k (by omega) h) ?_
  rintro _ _ ⟨rfl, rfl⟩
  refine wk ?_
  apply CX.copyBk (m := k) (news := cb (le k n))
  · rfl
  · rfl
  · rfl
  · exact RdS.own (by first | exact pickA | exact updA) (one_cb _) (by omega)
  · first | exact pickA | exact updA
  · simp
  · simp; omega
  rw [List.take_of_length_le (by simp), cb_setL]
  refine wk ?_
  (apply CQ.end0; (· rfl))
  · exact ⟨rfl, rfl⟩
  · exact selA
theorem spget_c (b f k : Nat) (B : Blk) (hB : WB B) (hk : k = 4 ∨ k = 8) (h : f + k ≤ 128) : Ctr Try.prog 98 [.agg #[.int .i64 (f : Int), .int .i64 ((f + k : Nat) : Int)], .pointer (some ⟨b, 0, none⟩)] [] (fun x => rdx (some ⟨b, 0, none⟩) 128 (cb B) x)
    (fun v M => v = .int .u64 ((ofLe ((B.drop f).take k) : Nat) : Int) ∧ M = []) := by
  have hB' : B.length = 128 := hB
  have e : ((f + k : Nat) : Int) - (f : Int) = (k : Int) := by omega
  have hl : ((B.drop f).take k).length = k := by simp; omega
  have e2 := getN_0 (B := (B.drop f).take k) (k := k) (by omega) hl
  refine Ctr.intro Try.func98 rfl Try.ntmps98 rfl fun x w hp => ?_
  have hp2 : rdx (some ⟨b, f, none⟩) k (cb ((B.drop f).take k)) x := by
    have := rdx_part rfl hp hB'.symm f k (by omega)
    rw [Nat.zero_add] at this; exact this
  refine wk ?_
  (refine CX.boxA (vs := [.int .i64 (f : Int), .int .i64 ((f + k : Nat) : Int)]) ?_; intro q)
  refine wk ?_
  refine CC.draw [(0, 1), (1, 0), (3, 0), (4, 1), (5, 0), (6, 1), (7, 0), (2, 2), (8, 2), (9, 0), (10, 0), (11, 0), (12, 0), (13, 0)] mixed rfl (by kernel_rfl) (by kernel_rfl) [bk q 129 [.int .i64 (f : Int), .int .i64 ((f + k : Nat) : Int)]] ?_
  (apply CH.read; (· rfl); (· apply PS.loadG (vs := [.int .i64 (f : Int), .int .i64 ((f + k : Nat) : Int)]); (· rfl); (· rfl); (· exact CellsAt.all (by first | exact pickA | exact updA)); (· rfl)); (· exact selA))
  refine hwk ?_
  refine CH.chain rfl fun K hK => ?_
  refine CX.callA (spof_c b f k (by omega) h) ?_
  rintro _ _ ⟨rfl, rfl⟩
  (refine CX.nil ?_; refine CQ.thenK ?_; apply hK; (· exact selA); clear hK K)
  refine hwk ?_
  rw [e]
  refine CH.chain rfl fun K hK => ?_
  have cc := nget_c ((B.drop f).take k) (some ⟨b, f, none⟩) k 0 (k : Int) (by omega) (by omega) (by omega)
  rw [hl, e2] at cc
  refine CX.callA (cc) ?_ (hpre := by exact rdx_ex (by first | exact pickA | exact updA) hp2)
  clear cc
  rintro _ _ ⟨rfl, rfl⟩
  (refine CX.nil ?_; refine CQ.thenK ?_; apply hK; (· exact selA); clear hK K)
  refine hwk ?_
  refine wk ?_
  ((apply CQ.end1; (· rfl); (· exact .tmp rfl)); (· exact ⟨rfl, rfl⟩); (· exact selA))
theorem ssum_c (b : Nat) (B : Blk) (hB : WB B) : Ctr Try.prog 93 [.pointer (some ⟨b, 0, none⟩)] [] (fun x => rdx (some ⟨b, 0, none⟩) 128 (cb B) x)
    (fun v M => v = .int .u64 ((crcM (B.take 116) : Nat) : Int) ∧ M = []) := by
  have hB' : B.length = 128 := hB
  have hl : (B.take 116).length = 116 := by simp; omega
  have hlt := crc_lt (B.take 116)
  have e : cutAt (some ⟨b, 0, none⟩) 0 116 1 = some ⟨b, 0, none⟩ := by unfold cutAt; simp [addr_add]
  refine Ctr.intro Try.func93 rfl Try.ntmps93 rfl fun x w hp => ?_
  have hp2 : rdx (some ⟨b, 0, none⟩) 116 (cb (B.take 116)) x := by
    have := rdx_part rfl hp hB'.symm 0 116 (by omega)
    simpa using this
  refine wk ?_
  refine CC.draw [(0, 0), (1, 0), (2, 3), (3, 0), (4, 3), (5, 0), (6, 0), (7, 3), (8, 0), (9, 0)] mixed rfl (by kernel_rfl) (by kernel_rfl) [] ?_
  refine hwk ?_
  refine CH.tail rfl rfl fun K hK => ?_
  refine CX.callA (scheck_c) ?_
  rintro _ _ ⟨rfl, rfl⟩
  (refine CX.nil ?_; refine CQ.thenK ?_; apply hK; clear hK K)
  refine hwk ?_
  refine CH.tail rfl rfl fun K hK => ?_
  refine CX.callA (scheck_c) ?_
  rintro _ _ ⟨rfl, rfl⟩
  (refine CX.nil ?_; refine CQ.thenK ?_; apply hK; clear hK K)
  refine hwk ?_
  (apply CH.pure; (· rfl); (· apply PS.sliceArr3 (l := 0) (h := 116) (m := 116); (· rfl); (· rfl); (· rfl); (· rfl); (· rfl); (· exact .inl ⟨rfl, rfl⟩); (· exact ⟨_, rfl⟩); (· omega); (· omega); (· omega)))
  rw [e]
  refine CH.tail rfl rfl fun K hK => ?_
  have cc := of_c (B.take 116) (by omega) (some ⟨b, 0, none⟩) 116
  rw [hl] at cc
  refine CX.callA (cc) ?_ (hpre := by exact rdx_ex (by first | exact pickA | exact updA) hp2)
  clear cc
  rintro _ _ ⟨rfl, rfl⟩
  (refine CX.nil ?_; refine CQ.thenK ?_; apply hK; clear hK K)
  refine hwk ?_
  refine wk ?_
  ((apply CQ.end1; (· rfl); (· exact .tmp rfl)); (· exact ⟨rfl, rfl⟩); (· exact selA))
theorem sput_c (n : Nat) (hn : n ≤ top) (body : Blk) (hb : body.length ≤ 9223372036854775807) (a : Option Addr) (cap : Nat) : Ctr Try.prog 34 [.int .u64 (n : Int), .slice a body.length cap] [] (fun x => rdx a body.length (cb body) x)
    (fun v M => v = .tuple #[.agg (cb (putM n body).1).toArray, .int .i64 (putM n body).2] ∧ M = []) := by
  refine Ctr.intro Try.func34 rfl Try.ntmps34 rfl fun x w hp => ?_
  refine wk ?_
  (refine CX.allocZ (cb zblk) ?_; intro r)
  refine wk ?_
  by_cases h1 : n = 0
  · have e : putM n body = (zblk, 2) := by unfold putM; rw [if_pos h1]
    rw [e]
    refine wk ?_
    ((apply CX.ps; (· apply PS.loadG (vs := cb (zblk)); (· rfl); (· rfl); (· exact CellsAt.all (by first | exact pickA | exact updA)); (· exact WB_z.len))))
    (apply CX.storeAll; (· rfl); (· rfl); (· rfl); (· first | exact pickA | exact updA); (· exact WB_z.len); (· exact WB_z.len); (· exact one_cb _))
    refine wk ?_
    ((apply CQ.end2; (· rfl); (· exact .cells inferInstance rfl (CellsAt.all (by first | exact pickA | exact updA)) (WB_z.len)); (· exact .tmp rfl)); (· exact ⟨rfl, rfl⟩); (· exact selA))
  by_cases h2 : 108 < body.length
  · have e : putM n body = (zblk, 3) := by unfold putM; rw [if_neg h1, if_pos h2]
    rw [e]
    refine wk ?_
    ((apply CX.ps; (· apply PS.loadG (vs := cb (zblk)); (· rfl); (· rfl); (· exact CellsAt.all (by first | exact pickA | exact updA)); (· exact WB_z.len))))
    (apply CX.storeAll; (· rfl); (· rfl); (· rfl); (· first | exact pickA | exact updA); (· exact WB_z.len); (· exact WB_z.len); (· exact one_cb _))
    refine wk ?_
    ((apply CQ.end2; (· rfl); (· exact .cells inferInstance rfl (CellsAt.all (by first | exact pickA | exact updA)) (WB_z.len)); (· exact .tmp rfl)); (· exact ⟨rfl, rfl⟩); (· exact selA))
  have e : putM n body = (sealB n body, 0) := by unfold putM; rw [if_neg h1, if_neg h2]
  rw [e]
  have hl : body.length ≤ 108 := by omega
  obtain ⟨w1, w2, w3⟩ := seal_WB (n := n) hl
  have w4 := sealB_WB (n := n) hl
  have hlt := crc_lt ((seal2 n body).take 116)
  refine wk ?_
  refine CX.callA (sbegin_c) ?_
  rintro _ _ ⟨rfl, rfl⟩
  refine wk ?_
  refine CX.callA (spput_c r 29 0 8 n zblk WB_z (by omega) (by omega) (by simp only [top] at hn; omega)) ?_
  rintro _ _ ⟨rfl, rfl⟩
  rw [show ins zblk 0 (le 8 n) = seal1 n from rfl]
  refine wk ?_
  refine CX.callA (sinner_c) ?_
  rintro _ _ ⟨rfl, rfl⟩
  refine wk ?_
  refine CX.callA (spof_c r 8 108 (by omega) (by omega)) ?_
  rintro _ _ ⟨rfl, rfl⟩
  refine wk ?_
  apply CX.copyBk (m := body.length) (news := cb body)
  · rfl
  · rfl
  · rfl
  · exact RdS.rdx (by first | exact pickA | exact updA) hp rfl
  · first | exact pickA | exact updA
  · exact (Nat.min_eq_left (by omega)).symm
  · have := w1.len; omega
  rw [List.take_of_length_le (by simp), cb_setL, show (seal1 n).take 8 ++ (body ++ (seal1 n).drop (8 + body.length)) = seal2 n body from rfl]
  refine wk ?_
  refine CX.callA (scheck_c) ?_
  rintro _ _ ⟨rfl, rfl⟩
  refine wk ?_
  have hw2 : (seal2 n body).length = 128 := w2
  refine CX.callA (ssum_c r (seal2 n body) w2) ?_ (hpre := by exact fun y hy => by have := rdx_bk (L := _) (t := 29) (b := r) (B := seal2 n body) (by first | exact pickA | exact updA) 0 128 (by omega) y hy; rwa [List.drop_zero, List.take_of_length_le (by omega)] at this)
  rintro _ _ ⟨rfl, rfl⟩
  refine wk ?_
  refine CX.callA (spput_c r 29 116 4 (crcM ((seal2 n body).take 116)) (seal2 n body) w2 (by omega) (by omega) hlt) ?_
  rintro _ _ ⟨rfl, rfl⟩
  rw [show ins (seal2 n body) 116 (le 4 (crcM ((seal2 n body).take 116))) = seal3 n body from rfl]
  refine wk ?_
  refine CX.callA (send_c) ?_
  rintro _ _ ⟨rfl, rfl⟩
  refine wk ?_
  refine CX.ps (PS.not64 n hn rfl rfl) ?_
  refine CX.callA (spput_c r 29 120 8 (18446744073709551615 - n) (seal3 n body) w3 (by omega) (by omega) (by omega)) ?_
  rintro _ _ ⟨rfl, rfl⟩
  rw [show 18446744073709551615 - n = top - n from rfl, seal4_eq hl]
  refine wk ?_
  ((apply CX.ps; (· apply PS.loadG (vs := cb (sealB n body)); (· rfl); (· rfl); (· exact CellsAt.all (by first | exact pickA | exact updA)); (· exact w4.len))))
  (apply CX.storeAll; (· rfl); (· rfl); (· rfl); (· first | exact pickA | exact updA); (· exact w4.len); (· exact w4.len); (· exact one_cb _))
  refine wk ?_
  ((apply CQ.end2; (· rfl); (· exact .cells inferInstance rfl (CellsAt.all (by first | exact pickA | exact updA)) (w4.len)); (· exact .tmp rfl)); (· exact ⟨rfl, rfl⟩); (· exact selA))
end Go.Proofs.Ytlckhaodecdbbaa
/-! The journal in plain Lean: a batch's blocks, what is laid, what is read. No program in sight. -/
namespace Go.Cx
/-- Bytes in blocks, 0s behind them. -/
def chopB (R : Blk) : List Blk := (List.range ((R.length + 127) / 128)).map fun i => padB 128 ((R.drop (i * 128)).take 128)
def cutB (b : Blk) : List Blk := chopB (rowB b)
theorem chop_len (R : Blk) : (chopB R).length = (R.length + 127) / 128 := by simp [chopB]
theorem chop_WB (R : Blk) : ∀ b ∈ chopB R, WB b := fun b hb => by
  simp only [chopB, List.mem_map] at hb
  obtain ⟨i, _, rfl⟩ := hb
  exact padB_len (by simp; omega)
theorem chop_at (R : Blk) (k : Nat) (h : k < (chopB R).length) : (chopB R)[k] = padB 128 ((R.drop (k * 128)).take 128) := by simp [chopB]
theorem rowB_length (b : Blk) : (rowB b).length = 4 + b.length := by simp [rowB]
theorem cut_len (b : Blk) : (cutB b).length = (b.length + 131) / 128 := by
  unfold cutB; rw [chop_len, rowB_length]; congr 1; omega
/-- A journal's number and head. -/
structure JM where
  n : Nat
  h : HdM
def bankM (D : DS) : Nat := (D.sure.length - 2) / 2
def firstM (D : DS) (b : Nat) : Nat := 2 + b * bankM D
def bothM (D : DS) : Blk × Blk × Int := if (D.read 0).2 ≠ 0 then ((D.read 0).1, zblk, (D.read 0).2) else ((D.read 0).1, (D.read 1).1, (D.read 1).2)
def markM (J : JM) (h : HdM) (D : DS) : Int × DS :=
  if (bothM D).2.2 ≠ 0 then ((bothM D).2.2, D) else if (putH (J.n + 1) h).2 ≠ 0 then ((putH (J.n + 1) h).2, D) else D.write (nextM (bothM D).1 (bothM D).2.1) (putH (J.n + 1) h).1
/-- Steps, up to the first one that is refused. -/
def runM : List (DS → Int × DS) → DS → Int × DS
  | [], D => (0, D)
  | f :: l, D => if (f D).1 ≠ 0 then f D else runM l (f D).2
def writesM (at_ : Nat) (l : List Blk) : List (DS → Int × DS) := (List.range l.length).map fun (i : Nat) (D : DS) => D.write ((at_ : Int) + (i : Int)) (l.getD i [])
def layS (J : JM) (at_ : Nat) (l : List Blk) (h : HdM) : List (DS → Int × DS) := writesM at_ l ++ [DS.flush, markM J h, DS.flush]
def layM (J : JM) (at_ : Nat) (l : List Blk) (h : HdM) (D : DS) : Int × JM × DS :=
  if (runM (layS J at_ l h) D).1 ≠ 0 then ((runM (layS J at_ l h) D).1, J, (runM (layS J at_ l h) D).2) else (0, ⟨J.n + 1, h⟩, (runM (layS J at_ l h) D).2)
theorem wf_up {D : DS} {N M : Nat} (h : D.wf N) (k : N ≤ M) : D.wf M := ⟨h.lo, h.hi, h.wb, h.lb, h.left0, h.left1, by have := h.steps; omega, by have := h.loose; omega⟩
theorem lit_lt {D : DS} {n : Int} (h : D.lit n = 0) : n.toNat < D.sure.length := by
  unfold DS.lit DS.there errOf at h
  split at h
  · cases h
  · split at h
    · omega
    · cases h
theorem stepM_wf {D : DS} {N : Nat} (h : D.wf N) : D.step.2.wf (N + 1) := by
  have h1 := h.left0; have h2 := h.left1; have h3 := h.steps; have h4 := h.loose
  unfold DS.step
  split
  · exact ⟨h.lo, h.hi, h.wb, h.lb, h1, h2, by simp; omega, by simp; omega⟩
  · exact ⟨h.lo, h.hi, h.wb, h.lb, by simp; omega, by simp; omega, by simp; omega, by simp; omega⟩
theorem step_sure (D : DS) : D.step.2.sure = D.sure ∧ D.step.2.loose = D.loose := by unfold DS.step; split <;> exact ⟨rfl, rfl⟩
theorem write_wf {D : DS} {N : Nat} (h : D.wf N) (n : Int) {b : Blk} (hb : WB b) : (D.write n b).2.wf (N + 1) := by
  unfold DS.write
  split
  · exact wf_up h (by omega)
  · rename_i hl
    have hl' : D.lit n = 0 := by omega
    split
    · have hs := stepM_wf h
      have e := step_sure D
      refine ⟨hs.lo, hs.hi, hs.wb, fun p hp => ?_, hs.left0, hs.left1, hs.steps, ?_⟩
      · dsimp only at hp ⊢
        rcases List.mem_append.1 hp with hp | hp
        · exact hs.lb p hp
        · obtain rfl := List.mem_singleton.1 hp
          rw [e.1]; exact ⟨lit_lt hl', hb⟩
      · dsimp only
        rw [e.2, List.length_append, List.length_singleton]
        have := h.loose; omega
    · exact stepM_wf h
theorem flush_wf {D : DS} {N : Nat} (h : D.wf N) : D.flush.2.wf (N + 1) := by
  unfold DS.flush
  split
  · exact wf_up h (by omega)
  · split
    · exact settle_wf (stepM_wf h) [] 128
    · exact stepM_wf h
theorem putH_WB (n : Nat) (h : HdM) : WB (putH n h).1 := by
  unfold putH; split
  · exact WB_z
  · exact sealB_WB (by rw [bytes_len]; omega)
theorem mark_wf {J : JM} {k : HdM} {D : DS} {N : Nat} (h : D.wf N) : (markM J k D).2.wf (N + 1) := by
  unfold markM
  split
  · exact wf_up h (by omega)
  · split
    · exact wf_up h (by omega)
    · exact write_wf h _ (putH_WB _ _)
/-! ### What is read -/
def rdAll (D : DS) (f : Nat) : Nat → Nat → Blk → Blk × Int
  | _, 0, acc => (acc, 0)
  | i, n + 1, acc => if (D.read ((f : Int) + (i : Int))).2 ≠ 0 then ([], (D.read ((f : Int) + (i : Int))).2) else rdAll D f (i + 1) n (acc ++ (D.read ((f : Int) + (i : Int))).1)
def upB (n : Nat) : Nat := (n + 127) / 128 * 128
def parseM : Nat → List Blk → Blk → List Blk × Int
  | 0, l, all => if 0 < all.length then ([], 5) else (l, 0)
  | k + 1, l, all =>
    if (Cx.rowAt all 0 1048576).2.2 ≠ 0 then ([], 5)
    else if ∃ c ∈ (all.drop (Cx.rowAt all 0 1048576).2.1).take (upB (Cx.rowAt all 0 1048576).2.1 - (Cx.rowAt all 0 1048576).2.1), c ≠ 0 then ([], 5)
    else parseM k (l ++ [(Cx.rowAt all 0 1048576).1]) (all.drop (upB (Cx.rowAt all 0 1048576).2.1))
def readM (J : JM) (D : DS) : List Blk × Int :=
  if bankM D < J.h.blocks then ([], 5)
  else if (rdAll D (firstM D J.h.bank) 0 J.h.blocks []).2 ≠ 0 then ([], (rdAll D (firstM D J.h.bank) 0 J.h.blocks []).2)
  else parseM J.h.batches [] (rdAll D (firstM D J.h.bank) 0 J.h.blocks []).1
/-! ### The methods -/
def askedM (D : DS) (b : Blk) : List Blk × Int := if 1048576 < b.length then ([], 3) else if D.dark then ([], 9) else (cutB b, 0)
def appendM (J : JM) (D : DS) (b : Blk) : Int × JM × DS :=
  if (askedM D b).2 ≠ 0 then ((askedM D b).2, J, D)
  else if (bankM D : Int) - (J.h.blocks : Int) < ((askedM D b).1.length : Int) then (10, J, D)
  else layM J (firstM D J.h.bank + J.h.blocks) (askedM D b).1 ⟨J.h.bank, J.h.blocks + (askedM D b).1.length, J.h.batches + 1⟩ D
def replaceM (J : JM) (D : DS) (b : Blk) : Int × JM × DS :=
  if (askedM D b).2 ≠ 0 then ((askedM D b).2, J, D)
  else if bankM D < (askedM D b).1.length then (10, J, D)
  else layM J (firstM D (1 - J.h.bank)) (askedM D b).1 ⟨1 - J.h.bank, (askedM D b).1.length, 1⟩ D
def makeM (D : DS) : Int × JM × DS := layM ⟨0, HdM.z⟩ 0 [zblk, zblk] HdM.z D
def openM (D : DS) : Int × JM :=
  if (bothM D).2.2 ≠ 0 then ((bothM D).2.2, ⟨0, HdM.z⟩)
  else if (newH (bothM D).1 (bothM D).2.1).2.2 ≠ 0 ∨ 2305843009213693952 < (newH (bothM D).1 (bothM D).2.1).1 then (5, ⟨0, HdM.z⟩)
  else ((readM ⟨(newH (bothM D).1 (bothM D).2.1).1, (newH (bothM D).1 (bothM D).2.1).2.1⟩ D).2, ⟨(newH (bothM D).1 (bothM D).2.1).1, (newH (bothM D).1 (bothM D).2.1).2.1⟩)
theorem asked_len (D : DS) (b : Blk) : (askedM D b).1.length ≤ 8194 := by
  unfold askedM
  split
  · simp
  · split
    · simp
    · rename_i h _; dsimp only; rw [cut_len]; omega
theorem asked_WB (D : DS) (b : Blk) : ∀ x ∈ (askedM D b).1, WB x := by
  unfold askedM
  split
  · intro x hx; cases hx
  · split
    · intro x hx; cases hx
    · exact chop_WB _
end Go.Cx
/-! A batch's blocks (journal.cut, slices.Chunk), in the program. -/
namespace Go.Cx
/-- What Chunk hands out of a row of so many bytes. -/
def chunkV (g n : Nat) : List (List Value) := (List.range ((n + 127) / 128)).map fun i => [.slice (some ⟨g, i * 128, none⟩) (min 128 (n - i * 128)) (min 128 (n - i * 128))]
theorem chunkV_len (g n : Nat) : (chunkV g n).length = (n + 127) / 128 := by simp [chunkV]
theorem chunkV_at {g n i : Nat} (h : i * 128 < n) : (chunkV g n)[i]? = some [.slice (some ⟨g, i * 128, none⟩) (min 128 (n - i * 128)) (min 128 (n - i * 128))] := by
  have h2 : i < (n + 127) / 128 := by omega
  simp [chunkV, h2]
theorem rdS_of1 {L : List Assn} {a : Option Addr} {m : Nat} {B : Blk} (h : ∀ y, Sep L y → rdx a m (cb B) y) (hl : m = B.length) : RdS L a m (cb B) := by
  have := rdS_of h hl
  rwa [Nat.mul_one] at this
theorem set_pad {p : Blk} {m : Nat} (h : p.length = m) (hm : m ≤ 128) : setL (cb zblk) 0 ((cb p).take m) = cb (padB 128 p) := by
  subst h
  rw [List.take_of_length_le (by simp), cb_setL]
  congr 1
  unfold padB zblk
  rw [Nat.zero_add, List.drop_replicate, List.take_zero, List.nil_append]
theorem minI (q : Nat) : (min (128 : Int) (q : Int)) = ((min 128 q : Nat) : Int) := by omega
end Go.Cx
namespace Go.Proofs.Ytlckhaodecdbbaa
open Go.Cx
attribute [local irreducible] Go.Cx.CX Go.Cx.CC Go.Cx.CQ Go.Cx.PS Go.Cx.Ctr Go.Cx.CH
set_option maxRecDepth 10000
theorem chunk_c (u : Value) (hu : u.cells = #[u]) : Ctr Try.prog 171 [u, .int .i64 128] [] (fun _ => True)
    (fun v M => ∃ b1 b2, v = .func (.func 174) #[] #[.pointer (some ⟨b1, 0, none⟩), .pointer (some ⟨b2, 0, none⟩)] ∧ M = [bk b1 45 [u], bk b2 3 [.int .i64 128]]) := by
  refine Ctr.intro Try.func171 rfl Try.ntmps171 rfl fun x w hp => ?_
  refine wk ?_
  (apply CX.box; (· rfl); (· rfl); intro b1)
  rw [hu]
  (apply CX.box; (· rfl); (· rfl); intro b2)
  refine wk ?_
  (apply CQ.end1; (· rfl); (· exact .tmp rfl))
  · exact ⟨b1, b2, rfl, rfl⟩
  · exact selA
theorem chunkI_c (g n cap : Nat) (hn : n ≤ 1073741824) (hcap : n ≤ cap) (b1 b2 : Nat) :
    Iter Try.prog 174 [.pointer (some ⟨b1, 0, none⟩), .pointer (some ⟨b2, 0, none⟩)] [bk b1 45 [.slice (some ⟨g, 0, none⟩) n cap], bk b2 3 [.int .i64 128]] (fun _ => True) (chunkV g n) := by
  refine Iter.intro Try.func174 rfl Try.ntmps174 rfl ?_
  rintro ly x I w - hY M0 hI0
  refine wk ?_
  refine CC.loop (X := Nat × List Assn) (fun s => [(0, .func (.yield ly) #[] #[]), (1, .pointer (some ⟨b1, 0, none⟩)), (2, .pointer (some ⟨b2, 0, none⟩)), (4, .int .i64 ((s.1 * 128 : Nat) : Int))])
    (fun s => [many s.2, bk b1 45 [.slice (some ⟨g, 0, none⟩) n cap], bk b2 3 [.int .i64 128], exact x]) (fun s => s.1 ≤ (n + 127) / 128 ∧ I s.1 s.2) (fun s => (n + 127) / 128 - s.1) (0, M0) ⟨Nat.zero_le _, hI0⟩ ⟨rfl, rfl, rfl, rfl, trivial⟩ (by exact selA) ?_
  rintro ⟨i, M⟩ ⟨hi, hI⟩
  dsimp only at hi hI ⊢
  by_cases h1 : i * 128 < n
  · have hat := chunkV_at (g := g) h1
    refine wk ?_
    refine CC.draw [(0, 1), (1, 1), (2, 0), (3, 0), (4, 0), (5, 0), (6, 0)] mixed rfl (by kernel_rfl) (by kernel_rfl) [bk b1 45 [.slice (some ⟨g, 0, none⟩) n cap], bk b2 3 [.int .i64 128]] ?_
    refine hwk ?_
    refine CH.pure rfl (PS.sliceLo (l := i * 128) rfl rfl rfl rfl (by omega) hcap) ?_
    refine hwk ?_
    rw [minI (n - i * 128)]
    have hmn : min 128 (n - i * 128) = if 128 ≤ n - i * 128 then 128 else n - i * 128 := by split <;> omega
    have hmp : 0 < min 128 (n - i * 128) ∧ min 128 (n - i * 128) ≤ 128 ∧ i * 128 + min 128 (n - i * 128) ≤ n := by omega
    generalize min 128 (n - i * 128) = m at hat hmp
    refine wnk ?_
    refine CC.regionI ?_
    refine CXI.ps ?_
    refine CXI.ps ?_
    refine CXI.ps ?_
    refine CXI.ps ?_
    refine CXI.ps ?_
    refine CXI.ps ?_
    refine CXI.ps ?_
    refine CXI.ps ?_
    refine CXI.ps ?_
    refine CXI.ps ?_ (PS.slice3 (l := i * 128) (h := i * 128 + m) (m := i * 128 + m) rfl rfl rfl rfl (eqI (by simp)) (.inr ⟨_, rfl⟩) ⟨.i64, by simp⟩ (by omega) (by omega) (by omega))
    have e1 : cutAt (some ⟨g, 0, none⟩) (i * 128) (i * 128 + m) 1 = some ⟨g, i * 128, none⟩ := by
      unfold cutAt; rw [if_neg (by omega)]; simp [addr_add]
    rw [e1, Nat.add_sub_cancel_left]
    refine CXI.yieldM hY (k := i) (M := M) (vs := [.slice (some ⟨g, i * 128, none⟩) m m]) hat hI ?_
    intro M' hI'
    refine CXI.ps ?_
    refine CXI.nil ?_
    refine wk ?_
    exact CQ.round (x := (i, M)) (i + 1, M') ⟨by dsimp only; omega, hI'⟩ (by dsimp only; omega) ⟨rfl, rfl, rfl, eqI (by simp; omega), trivial⟩ (by exact selA)
  · have hi2 : i = (n + 127) / 128 := by omega
    refine wk ?_
    exact CQ.endIter rfl hI (by rw [chunkV_len]; exact hi2)
theorem cut_c (B : Blk) (hB : B.length ≤ 1048576) (a : Option Addr) (cap : Nat) (hn : a = none → B.length = 0 ∧ cap = 0) : Ctr Try.prog 166 [.slice a B.length cap] [] (fun x => rdx a B.length (cb B) x)
    (fun v M => ∃ a' c', v = .slice a' (cutB B).length c' ∧ M = [own 29 128 a' (cutB B).length c' (flat (cutB B))]) := by
  refine Ctr.introM Try.func166 rfl Try.ntmps166 rfl fun x w hp => ?_
  refine wk ?_
  refine CX.allocZ [.slice none 0 0] ?_ (hv := rfl)
  intro b3
  refine wk ?_
  refine CX.callA (row_c B (by omega) a cap hn) ?_ (hpre := by exact rdx_ex (by first | exact pickA | exact updA) hp)
  rintro _ _ ⟨g, c, rfl, rfl⟩
  refine CX.fact (own_none (e := 5) (sz := 1) (by first | exact pickA | exact updA)) ?_
  rintro ⟨-, hc, -⟩
  refine CX.callA (chunk_c (.slice (some ⟨g, 0, none⟩) (4 + B.length) c) rfl) ?_
  rintro _ _ ⟨b1, b2, rfl, rfl⟩
  refine wk ?_
  refine CC.ownNil 29 128 ?_
  have hRl : (rowB B).length = 4 + B.length := rowB_length B
  have hlen : (chunkV g (4 + B.length)).length = (cutB B).length := by rw [chunkV_len, cutB, chop_len, hRl]
  refine CC.range (chunkI_c g (4 + B.length) c (by omega) hc b1 b2) rfl (fun k M => ∃ a1 c1, M = [bk b3 59 [.slice a1 k c1], own 29 128 a1 k c1 (flat ((cutB B).take k))] ∧ k ≤ (cutB B).length)
    (M0 := [bk b3 59 [.slice none 0 0], own 29 128 none 0 0 []]) ⟨none, 0, rfl, Nat.zero_le _⟩ (by exact selA) (fun _ _ => trivial) (fun v hv => by
      simp only [chunkV, List.mem_map] at hv
      obtain ⟨i, _, rfl⟩ := hv; rfl) ?_ ?_
  · rintro ly ⟨st, pd, rfn, rtm, rps, ras, rbd, rdf⟩ k v M y e1 hk ⟨a1, c1, rfl, hkl⟩ hst hpd hy
    dsimp only at hst hpd
    subst hst; subst hpd
    have hk2 : k < (cutB B).length := by rw [← hlen]; exact (List.getElem?_eq_some_iff.1 hk).1
    have hk3 : k * 128 < 4 + B.length := by rw [cut_len] at hk2; omega
    rw [chunkV_at hk3] at hk
    obtain rfl := Option.some.inj hk
    have hry : rdx (some ⟨g, 0, none⟩) (4 + B.length) (cb (rowB B)) y := rdx_own (e := 5) (by first | exact pickA | exact updA) hRl.symm y hy
    clear hy
    have hpl : ((((rowB B).drop (k * 128)).take 128)).length = min 128 (4 + B.length - k * 128) := by simp [hRl]
    have hpart : rdx (some ⟨g, k * 128, none⟩) (min 128 (4 + B.length - k * 128)) (cb (((rowB B).drop (k * 128)).take 128)) y := by
      have := rdx_part rfl hry hRl.symm (k * 128) (min 128 (4 + B.length - k * 128)) (by omega)
      rw [Nat.zero_add] at this
      have e2 : (((rowB B).drop (k * 128)).take (min 128 (4 + B.length - k * 128))) = ((rowB B).drop (k * 128)).take 128 := by
        exact List.take_eq_take_iff.2 (by simp [hRl])
      rw [e2] at this; exact this
    have hX : (cutB B)[k] = padB 128 (((rowB B).drop (k * 128)).take 128) := chop_at (rowB B) k hk2
    have hW : WB (cutB B)[k] := chop_WB (rowB B) _ (List.getElem_mem hk2)
    have htk : flat ((cutB B).take (k + 1)) = flat ((cutB B).take k) ++ cb (cutB B)[k] := by
      rw [List.take_succ_eq_append_getElem hk2]; unfold flat; rw [rows_append]; simp [rows]
    generalize ((rowB B).drop (k * 128)).take 128 = p at *
    have hm : min 128 (4 + B.length - k * 128) ≤ 128 := Nat.min_le_left _ _
    generalize min 128 (4 + B.length - k * 128) = m at *
    simp only [putEs]
    refine wqk ?_
    refine CQ.begin rfl (by first | exact pickA | exact updA) ?_
    refine wqk ?_
    refine CX.allocZ (cb zblk) ?_
    intro q
    refine wqk ?_
    refine CX.ps (PS.sliceArr (l := 0) (h := 128) rfl rfl rfl rfl (.inl ⟨rfl, rfl⟩) (.inl ⟨rfl, rfl⟩) (by omega) (by omega)) ?_
    rw [cutAt_zero]
    refine wqk ?_
    refine CX.copyBk (m := m) (news := cb p) rfl rfl rfl (rdS_of1 (rdx_ex (by first | exact pickA | exact updA) hpart) hpl.symm) (by first | exact pickA | exact updA) (Nat.min_eq_left (by simpa using hm)).symm (by rw [WB_z.len]; omega) ?_
    rw [set_pad hpl hm, ← hX]
    refine wqk ?_
    (apply CX.ps; (· apply PS.loadG (vs := cb (cutB B)[k]); (· rfl); (· rfl); (· exact CellsAt.all (by first | exact pickA | exact updA)); (· exact hW.len)))
    refine CX.buildSl (parts := [(0, _)]) (vs := [(0, .agg (cb (cutB B)[k]).toArray)]) (out := cb (cutB B)[k]) rfl rfl (by decide) (fill_one hW.len (by simp)) fun bq => ?_
    refine CX.append (m := 1) (news := cb (cutB B)[k]) rfl rfl rfl (by first | exact pickA | exact updA) (RdS.pick (b := bq) (o := 0) (by first | exact pickA | exact updA) hW.len (one_cb _) (by rw [List.drop_zero, List.take_of_length_le (by rw [hW.len]; omega)])) (by rw [cut_len] at hk2; omega) (fun h => by cases h) ?_
    intro a3 c3
    rw [← htk]
    refine wqk ?_
    refine CQ.endRound (by first | exact pickA | exact updA) ⟨rfl, [bk b3 59 [.slice a3 (k + 1) c3], own 29 128 a3 (k + 1) c3 (flat ((cutB B).take (k + 1)))], rfl, a3, c3, rfl, by omega⟩ (by exact selA)
  · rintro D M ⟨a1, c1, rfl, hk⟩
    rw [hlen] at *
    rw [List.take_length]
    refine wdk ?_
    refine CQ.endD1 rfl (by first | exact pickA | exact updA) (.tmp rfl) ⟨a1, c1, rfl, rfl⟩ (by exact selA)
end Go.Proofs.Ytlckhaodecdbbaa
/-! Stepping through a region in which two operations may come either way round. No program in sight. -/
namespace Go.Cx
/-- An order with forks. -/
inductive Pl
  | nil
  | op (i k : Nat) (p : Pl)
  | fork (i j : Nat) (p q : Pl)
def Pl.len : Pl → Nat
  | .nil => 0
  | .op _ _ p => p.len + 1
  | .fork _ _ p _ => p.len + 1
def plB (ops : Array Oper) (T : Nat → Bool) : Pl → Array Bool → Bool
  | .nil, listed => (Region.ready .any ops listed).isEmpty
  | .op i k p, listed =>
    (if k ≤ 1 then (Region.ready .any ops listed).contains i && Region.free .any ops listed i &&
        (k == 0 || (List.range ops.size).all fun j => !T j || ((ops[j]?).map fun oj => oj.after.any fun e => Region.binds .any e && e.on == i).getD true)
      else Region.ready .any ops listed == [i] && (k == 3 || !T i)) && plB ops T p (listed.setIfInBounds i true)
  | .fork i j p q, listed => (Region.ready .any ops listed == [i, j] && (p.len == q.len)) && (plB ops T p (listed.setIfInBounds i true) && plB ops T q (listed.setIfInBounds j true))
def CP (P : Program) (ops : Array Oper) (Q : Exit → Act → World → Prop) (n : Nat) (e0 : World) (T : Nat → Bool) (R : List Assn) (env : Env) (L : List Assn) (s : Pl) : Prop :=
  Region.noSelect ops = true → ∀ listed, plB ops T s listed = true → ∀ a w, Fr n env a → Sep L w.ph → Env0 e0 w → wpAnyT P ops (NoPanic Q) (fun w => Sep R w.ph) T s.len listed a w
section
variable {P : Program} {ops : Array Oper} {Q : Exit → Act → World → Prop} {n : Nat} {e0 : World} {env : Env} {L R : List Assn} {s p q : Pl} {T : Nat → Bool}
variable {dst : Option Tmp} {ty : TypeId} {pos : String} {aft : Array Edge} {g : Option (Nat × Bool)} {op : Op}
theorem CP.nil (h : CQ (Q .normal) n e0 env L) : CP P ops Q n e0 T R env L .nil := fun hsel listed hB a w hf hs he => by
  refine ⟨?_, h a w hf hs he⟩
  simpa [plB] using hB
theorem CP.pure {i : Nat} {v : Value} (h : CP P ops Q n e0 T R (putE env dst v) L s) (ho : ops[i]? = some ⟨dst, op, ty, pos, aft, g⟩ := by rfl) (hp : PS P ops n env [] ⟨dst, op, ty, pos, aft, g⟩ v := by first | (apply PS.cmpT; (· rfl); (· rfl); (· first | assumption | omega | rfl | decide)) | (apply PS.cmpF; (· rfl); (· rfl); (· first | assumption | omega | rfl | decide)) | (apply PS.cmp <;> rfl) | (apply PS.notD <;> rfl) | (apply PS.auto <;> rfl) | (apply PS.fieldAddr <;> rfl) | (apply PS.load; (· rfl); (· rfl); (· apply CellAt.pick; (· first | exact pickA | exact updA); (· rfl))) | (apply PS.arith; (· rfl); (· rfl); (· simp only [inR]; omega)) | (apply PS.convR; (· rfl); (· rfl); (· simp only [inR]; omega)) | (apply PS.lenSl <;> rfl) | (apply PS.capSl <;> rfl) | (apply PS.maxI <;> rfl) | (apply PS.minI <;> rfl) | (apply PS.eqlPtrNil <;> rfl) | (apply PS.neqPtrNil <;> rfl) | (apply PS.eqlSlNil <;> rfl) | (apply PS.makeFunc <;> rfl) | (apply PS.fieldS <;> rfl)) : CP P ops Q n e0 T R env L (.op i 0 s) := fun hsel listed hB a w hf hs he => by
  simp only [plB, Nat.zero_le, if_true, Bool.and_eq_true] at hB
  exact wpAnyT_first (rd := false) ho (Region.noSelect_spec hsel) (fun _ _ _ h => h.elim) (fun h => by cases h) _ _ _ _ (Region.free_spec ho hB.1.1.2) (by simpa using hB.1.1.1)
    (.inl ⟨gd_wanted hf hp.1, fun w' hs' => hp.2 a w' hf trivial⟩) (fun h => by cases h) (h hsel _ hB.2 _ _ (hf.put dst v) hs he)
theorem CP.read {i : Nat} {v : Value} {M : List Assn} (h : CP P ops Q n e0 T R (putE env dst v) L s) (ho : ops[i]? = some ⟨dst, op, ty, pos, aft, g⟩ := by rfl) (hp : PS P ops n env R ⟨dst, op, ty, pos, aft, g⟩ v := by first | (apply PS.cmpT; (· rfl); (· rfl); (· first | assumption | omega | rfl | decide)) | (apply PS.cmpF; (· rfl); (· rfl); (· first | assumption | omega | rfl | decide)) | (apply PS.cmp <;> rfl) | (apply PS.notD <;> rfl) | (apply PS.auto <;> rfl) | (apply PS.fieldAddr <;> rfl) | (apply PS.load; (· rfl); (· rfl); (· apply CellAt.pick; (· first | exact pickA | exact updA); (· rfl))) | (apply PS.arith; (· rfl); (· rfl); (· simp only [inR]; omega)) | (apply PS.convR; (· rfl); (· rfl); (· simp only [inR]; omega)) | (apply PS.lenSl <;> rfl) | (apply PS.capSl <;> rfl) | (apply PS.maxI <;> rfl) | (apply PS.minI <;> rfl) | (apply PS.eqlPtrNil <;> rfl) | (apply PS.neqPtrNil <;> rfl) | (apply PS.eqlSlNil <;> rfl) | (apply PS.makeFunc <;> rfl) | (apply PS.fieldS <;> rfl)) (hr : Sel L R M := by exact selA) : CP P ops Q n e0 T R env L (.op i 1 s) := fun hsel listed hB a w hf hs he => by
  simp only [plB, Nat.le_refl, if_true, Bool.and_eq_true, Bool.or_eq_true, List.all_eq_true] at hB
  refine wpAnyT_first (rd := true) ho (Region.noSelect_spec hsel) (fun _ _ _ h => h.elim) (fun _ j oj hj hTj => ?_) _ _ _ _ (Region.free_spec ho hB.1.1.2) (by simpa using hB.1.1.1)
    (.inl ⟨gd_wanted hf hp.1, fun w' hs' => hp.2 a w' hf (hs' rfl)⟩) (fun _ => (hr.sep hs).left) (h hsel _ hB.2 _ _ (hf.put dst v) hs he)
  rcases hB.1.2 with h1 | h1
  · simp at h1
  · have := h1 j (by simpa using (Array.getElem?_eq_some_iff.1 hj).1)
    simp only [hTj, Bool.not_true, Bool.false_or, hj, Option.map_some, Option.getD_some, Array.any_eq_true', Bool.and_eq_true, beq_iff_eq] at this
    rcases this with h2 | h2
    · cases h2
    · exact h2
/-- One operation, as a region of its own. -/
theorem CX.wpOp {i : Nat} {o : Oper} {K : Act → World → Prop} {a : Act} {w : World} (ho : ops[i]? = some o) (h : CX P ops (Exit.then K (NoPanic Q)) n e0 env L [o]) (hf : Fr n env a) (hs : Sep L w.ph) (he : Env0 e0 w) : Go.wpOp P ops (NoPanic Q) i K a w := by
  have := h a w hf hs he
  simp only [Go.wpOp, ho]
  unfold wpList at this
  split at this
  · rename_i hw
    simp only [hw, if_true]
    rcases this with h1 | ⟨h1, a0, w0, h2⟩
    · refine .inl ?_
      unfold Oper.wp at *
      generalize (execOp a.eval o).run P w = r at *
      cases r with
      | ok x w' =>
        cases x <;> simp only [Oper.upon] at h1 ⊢ <;> first
          | exact h1
          | exact h1.elim
          | exact Calls.mono h1 (fun e w'' h3 => by cases e <;> exact h3)
          | exact Rows.mono h1 (fun _ _ h3 => h3)
      | halt x w' => cases x <;> simp only [Oper.upon] at h1 ⊢ <;> exact h1
    · exact .inr ⟨h1, a0, w0, h2⟩
  · rename_i hw
    simp only [hw, if_false, Bool.false_eq_true]
    exact this
theorem CP.act {i k : Nat} {o : Oper}
    (h : ∀ K : Act → World → Prop, (∀ env' L' M, Sel L' R M → CP P ops Q n e0 T R env' L' s → CQ K n e0 env' L') → CX P ops (Exit.then K (NoPanic Q)) n e0 env L [o]) (hk : Nat.ble k 1 = false := by rfl) (ho : ops[i]? = some o := by rfl) :
    CP P ops Q n e0 T R env L (.op i k s) := fun hsel listed hB a w hf hs he => by
  have hk' : ¬ k ≤ 1 := fun h => by have := Nat.ble_eq_true_of_le h; rw [hk] at this; cases this
  simp only [plB, hk', if_false, Bool.and_eq_true, beq_iff_eq] at hB
  refine ⟨fun h0 => (by rw [hB.1.1] at h0; cases h0), fun j hj => ?_⟩
  rw [hB.1.1] at hj
  obtain rfl : j = i := by simpa using hj
  exact CX.wpOp ho (h _ fun env' L' M hm hch a' w' hf' hs' he' => ⟨fun _ _ => (hm.sep hs').left, hch hsel _ hB.2 a' w' hf' hs' he'⟩) hf hs he
/-- What comes last may leave what was read. -/
theorem CP.last {i : Nat} {o : Oper}
    (h : ∀ K : Act → World → Prop, (∀ env' L', CP P ops Q n e0 T R env' L' s → CQ K n e0 env' L') → CX P ops (Exit.then K (NoPanic Q)) n e0 env L [o]) (hT : T i = true := by rfl) (ho : ops[i]? = some o := by rfl) :
    CP P ops Q n e0 T R env L (.op i 3 s) := fun hsel listed hB a w hf hs he => by
  simp only [plB, show ¬ 3 ≤ 1 by omega, if_false, Bool.and_eq_true, beq_iff_eq] at hB
  refine ⟨fun h0 => (by rw [hB.1.1] at h0; cases h0), fun j hj => ?_⟩
  rw [hB.1.1] at hj
  obtain rfl : j = i := by simpa using hj
  exact CX.wpOp ho (h _ fun env' L' hch a' w' hf' hs' he' => ⟨fun hf _ => (by rw [hT] at hf; cases hf), hch hsel _ hB.2 a' w' hf' hs' he'⟩) hf hs he
/-- Either way round. -/
theorem CP.fork {i j : Nat} {oi oj : Oper}
    (h1 : ∀ K : Act → World → Prop, (∀ env' L' M, Sel L' R M → CP P ops Q n e0 T R env' L' p → CQ K n e0 env' L') → CX P ops (Exit.then K (NoPanic Q)) n e0 env L [oi])
    (h2 : ∀ K : Act → World → Prop, (∀ env' L' M, Sel L' R M → CP P ops Q n e0 T R env' L' q → CQ K n e0 env' L') → CX P ops (Exit.then K (NoPanic Q)) n e0 env L [oj]) (hoi : ops[i]? = some oi := by rfl) (hoj : ops[j]? = some oj := by rfl) :
    CP P ops Q n e0 T R env L (.fork i j p q) := fun hsel listed hB a w hf hs he => by
  simp only [plB, Bool.and_eq_true, beq_iff_eq] at hB
  obtain ⟨⟨hr, hlen⟩, hp, hq⟩ := hB
  refine ⟨fun h0 => (by rw [hr] at h0; cases h0), fun z hz => ?_⟩
  rw [hr] at hz
  rcases List.mem_cons.1 hz with rfl | hz
  · exact CX.wpOp hoi (h1 _ fun env' L' M hm hch a' w' hf' hs' he' => ⟨fun _ _ => (hm.sep hs').left, hch hsel _ hp a' w' hf' hs' he'⟩) hf hs he
  · obtain rfl : z = j := by simpa using hz
    exact CX.wpOp hoj (h2 _ fun env' L' M hm hch a' w' hf' hs' he' => ⟨fun _ _ => (hm.sep hs').left, by have := hch hsel _ hq a' w' hf' hs' he'; rw [← hlen] at this; exact this⟩) hf hs he
theorem CC.drawP {id : Nat} {l : List Oper} (s : Pl) (T : Nat → Bool) (hm : P.follows .mixedOrders = true) (hl : l.length = s.len) (hB : plB l.toArray T s (Array.replicate l.length false) = true)
    (hns : Region.noSelect l.toArray = true) (R : List Assn) (h : CP P l.toArray Q n e0 T R env L s) : CC P (.region id l.toArray true) Q n e0 env L := fun a w hf hs he => by
  refine wp_region_noPanic (wp_region_any hm (wpAny_of_T (S := fun w => Sep R w.ph) (T := T) _ _ _ _ ?_))
  have := h hns (Array.replicate l.length false) hB a { w with drawn := w.drawn + 1 } hf hs (he.trans ⟨rfl, rfl, rfl⟩)
  simpa [hl] using this
end
theorem hqk {p q : Prop} (h : q) (k : Hd q → p := by intro h; (repeat (first | refine CP.pure ?_ | refine CP.read ?_ | refine CP.nil ?_)); exact h.g) : p := k ⟨h⟩
end Go.Cx
/-! Sealed blocks (seal), in the program: what is read. -/
namespace Go.Proofs.Ytlckhaodecdbbaa
open Go.Cx
attribute [local irreducible] Go.Cx.CX Go.Cx.CC Go.Cx.CQ Go.Cx.PS Go.Cx.Ctr Go.Cx.CH
set_option maxRecDepth 10000
/-- What Get answers. -/
def GotM (B : Blk) (v : Value) (M : List Assn) : Prop :=
  ∃ a c, v = .tuple #[.int .u64 ((getM B).1 : Int), .slice a (getM B).2.1.length c, .int .i64 (getM B).2.2] ∧ M = [own 5 1 a (getM B).2.1.length c (cb (getM B).2.1)]
/-- The same, and all of its memory. -/
def GotF (B : Blk) (v : Value) (M : List Assn) : Prop :=
  ∃ a c Z, v = .tuple #[.int .u64 ((getM B).1 : Int), .slice a (getM B).2.1.length c, .int .i64 (getM B).2.2] ∧ M = [own 5 1 a c c (cb Z)] ∧ Z.length = c ∧ (getM B).2.1.length ≤ c ∧ Z.take (getM B).2.1.length = (getM B).2.1 ∧ (a = none → c = 0)
theorem full_rdx {L L' : List Assn} {b t : Nat} {B : Blk} (hB : WB B) (p : Pick (bk b t (cb B)) L L') : ∀ y, Sep L y → rdx (some ⟨b, 0, none⟩) 128 (cb B) y := fun y hy => by
  have hB' : B.length = 128 := hB
  have := rdx_bk p 0 128 (by omega) y hy
  rwa [List.drop_zero, List.take_of_length_le (by omega)] at this
theorem sgetF_c (B : Blk) (hB : WB B) : Ctr Try.prog 37 [.agg (cb B).toArray] [] (fun _ => True) (GotF B) := by
  have hB' : B.length = 128 := hB
  have hl8 := valid_top hB
  refine Ctr.intro Try.func37 rfl Try.ntmps37 rfl fun x w hp => ?_
  refine wk ?_
  (refine CX.boxA ?_; intro r)
  refine wk ?_
  refine CX.callA (sbegin_c) ?_
  rintro _ _ ⟨rfl, rfl⟩
  refine wk ?_
  refine CX.callA (spget_c r 0 8 B hB (by omega) (by omega)) ?_ (hpre := by exact full_rdx hB (by first | exact pickA | exact updA))
  rintro _ _ ⟨rfl, rfl⟩
  rw [List.drop_zero]
  by_cases h1 : ofLe (B.take 8) = 0
  · have e : getM B = (0, [], 5) := by unfold getM; rw [if_pos (.inl (by omega))]
    rw [h1]
    refine wk ?_
    refine CQ.ownNil 5 1 ?_
    (apply CQ.end3; (· rfl); (· exact .tmp rfl); (· exact .tmp rfl); (· exact .tmp rfl))
    · exact (show GotF B _ [own 5 1 none 0 0 (cb [])] from ⟨none, 0, [], by rw [e]; rfl, rfl, rfl, by rw [e]; exact Nat.le_refl _, by rw [e]; rfl, fun _ => rfl⟩)
    · exact selA
  refine wk ?_
  refine CX.callA (send_c) ?_
  rintro _ _ ⟨rfl, rfl⟩
  refine wk ?_
  refine CX.callA (spget_c r 120 8 B hB (by omega) (by omega)) ?_ (hpre := by exact full_rdx hB (by first | exact pickA | exact updA))
  rintro _ _ ⟨rfl, rfl⟩
  rw [show (B.drop 120).take 8 = B.drop 120 from List.take_of_length_le (by simp; omega)]
  refine wk ?_
  refine CX.ps (PS.not64 (ofLe (B.take 8)) hl8 rfl rfl) ?_
  rw [show 18446744073709551615 - ofLe (B.take 8) = top - ofLe (B.take 8) from rfl]
  by_cases h2 : ofLe (B.drop 120) = top - ofLe (B.take 8)
  · refine wk ?_
    refine CX.callA (scheck_c) ?_
    rintro _ _ ⟨rfl, rfl⟩
    refine wk ?_
    refine CX.callA (spget_c r 116 4 B hB (by omega) (by omega)) ?_ (hpre := by exact full_rdx hB (by first | exact pickA | exact updA))
    rintro _ _ ⟨rfl, rfl⟩
    refine wk ?_
    refine CX.callA (ssum_c r B hB) ?_ (hpre := by exact full_rdx hB (by first | exact pickA | exact updA))
    rintro _ _ ⟨rfl, rfl⟩
    by_cases h3 : ofLe ((B.drop 116).take 4) = crcM (B.take 116)
    · have e : getM B = (ofLe (B.take 8), (B.drop 8).take 108, 0) := by unfold getM; rw [if_neg (by omega), if_neg (by omega)]
      have hl : ((B.drop 8).take 108).length = 108 := by simp; omega
      refine wk ?_
      refine CX.buildSl0 ?_
      intro s
      refine wk ?_
      refine CX.callA (sinner_c) ?_
      rintro _ _ ⟨rfl, rfl⟩
      refine wk ?_
      refine CX.callA (spof_c r 8 108 (by omega) (by omega)) ?_
      rintro _ _ ⟨rfl, rfl⟩
      refine wk ?_
      refine CX.appendF (C := (B.drop 8).take 108) hl (by omega) (by omega) (RdS.pick (t := 29) (cs := cb B) (by first | exact pickA | exact updA) (by simp; omega) (one_cb _) (by rw [cb_drop, cb_take])) ?_
      intro q cap Z hq1 hq2 hq3
      refine wk ?_
      (apply CQ.end3; (· rfl); (· exact .tmp rfl); (· exact .tmp rfl); (· exact .tmp rfl))
      · exact (show GotF B _ [own 5 1 (some ⟨q, 0, none⟩) cap cap (cb Z)] from ⟨some ⟨q, 0, none⟩, cap, Z, by rw [e]; dsimp only; rw [hl], rfl, hq2, by rw [e]; dsimp only; omega, by rw [e]; dsimp only; rw [hl]; exact hq3, fun h => by cases h⟩)
      · exact selA
    · have e : getM B = (0, [], 6) := by unfold getM; rw [if_neg (by omega), if_pos h3]
      refine wk ?_
      refine CQ.ownNil 5 1 ?_
      (apply CQ.end3; (· rfl); (· exact .tmp rfl); (· exact .tmp rfl); (· exact .tmp rfl))
      · exact (show GotF B _ [own 5 1 none 0 0 (cb [])] from ⟨none, 0, [], by rw [e]; rfl, rfl, rfl, by rw [e]; exact Nat.le_refl _, by rw [e]; rfl, fun _ => rfl⟩)
      · exact selA
  · have e : getM B = (0, [], 5) := by unfold getM; rw [if_pos (.inr h2)]
    refine wk ?_
    refine CQ.ownNil 5 1 ?_
    (apply CQ.end3; (· rfl); (· exact .tmp rfl); (· exact .tmp rfl); (· exact .tmp rfl))
    · exact (show GotF B _ [own 5 1 none 0 0 (cb [])] from ⟨none, 0, [], by rw [e]; rfl, rfl, rfl, by rw [e]; exact Nat.le_refl _, by rw [e]; rfl, fun _ => rfl⟩)
    · exact selA
theorem sget_c (B : Blk) (hB : WB B) : Ctr Try.prog 37 [.agg (cb B).toArray] [] (fun _ => True) (GotM B) :=
  (sgetF_c B hB).conseq fun v M ⟨a, c, Z, hv, hM, h1, h2, h3, _⟩ => ⟨_, ⟨a, c, hv, rfl⟩, fun x h hs => by
    subst hM
    have := own_front h2 h1 hs
    rw [h3] at this; exact this⟩
theorem snumbers_c (A B : Blk) (hA : WB A) (hB : WB B) : Ctr Try.prog 100 [.agg (cb A).toArray, .agg (cb B).toArray] [] (fun _ => True) (fun v M => v = .tuple #[.int .u64 ((getM A).1 : Int), .int .u64 ((getM B).1 : Int)] ∧ M = []) := by
  refine Ctr.intro Try.func100 rfl Try.ntmps100 rfl fun x w hp => ?_
  refine wk ?_
  (refine CX.boxA ?_; intro r)
  refine wk ?_
  (refine CX.boxA ?_; intro s)
  refine wk ?_
  ((apply CX.ps; (· apply PS.loadG (vs := cb (A)); (· rfl); (· rfl); (· exact CellsAt.all (by first | exact pickA | exact updA)); (· exact hA.len))))
  refine CX.callA (sget_c A hA) ?_
  rintro _ _ ⟨a, c, rfl, rfl⟩
  refine wk ?_
  ((apply CX.ps; (· apply PS.loadG (vs := cb (B)); (· rfl); (· rfl); (· exact CellsAt.all (by first | exact pickA | exact updA)); (· exact hB.len))))
  refine CX.callA (sget_c B hB) ?_
  rintro _ _ ⟨a', c', rfl, rfl⟩
  refine wk ?_
  (apply CQ.end2; (· rfl); (· exact .tmp rfl); (· exact .tmp rfl))
  · exact ⟨rfl, rfl⟩
  · exact selA
theorem snewest_c (A B : Blk) (hA : WB A) (hB : WB B) : Ctr Try.prog 41 [.agg (cb A).toArray, .agg (cb B).toArray] [] (fun _ => True) (fun v M => v = .tuple #[.int .i64 (newestM A B).1, .int .i64 (newestM A B).2] ∧ M = []) := by
  have hn := getM_lt A
  have hm := getM_lt B
  refine Ctr.intro Try.func41 rfl Try.ntmps41 rfl fun x w hp => ?_
  refine wk ?_
  (refine CX.boxA ?_; intro r)
  refine wk ?_
  (refine CX.boxA ?_; intro s)
  refine wk ?_
  ((apply CX.ps; (· apply PS.loadG (vs := cb (A)); (· rfl); (· rfl); (· exact CellsAt.all (by first | exact pickA | exact updA)); (· exact hA.len))))
  ((apply CX.ps; (· apply PS.loadG (vs := cb (B)); (· rfl); (· rfl); (· exact CellsAt.all (by first | exact pickA | exact updA)); (· exact hB.len))))
  refine CX.callA (snumbers_c A B hA hB) ?_
  rintro _ _ ⟨rfl, rfl⟩
  refine wk ?_
  refine CX.ps (PS.orN (k := .u64) (getM A).1 (getM B).1 rfl hn hm rfl rfl rfl) ?_
  by_cases h1 : (getM A).1 = 0 ∧ (getM B).1 = 0
  · have e : newestM A B = (0, 7) := by unfold newestM; rw [if_pos h1]
    rw [or_zero h1]
    refine wk ?_
    rw [e]
    (apply CQ.end2; (· rfl); (· exact .tmp rfl); (· exact .tmp rfl))
    · exact ⟨rfl, rfl⟩
    · exact selA
  have h3 := or_nz h1
  generalize (getM A).1 ||| (getM B).1 = q at h3
  by_cases h2 : (getM A).1 < (getM B).1
  · have e : newestM A B = (1, 0) := by unfold newestM; rw [if_neg h1, if_pos h2]
    refine wk ?_
    rw [e]
    (apply CQ.end2; (· rfl); (· exact .tmp rfl); (· exact .tmp rfl))
    · exact ⟨rfl, rfl⟩
    · exact selA
  · have e : newestM A B = (0, 0) := by unfold newestM; rw [if_neg h1, if_neg h2]
    refine wk ?_
    rw [e]
    (apply CQ.end2; (· rfl); (· exact .tmp rfl); (· exact .tmp rfl))
    · exact ⟨rfl, rfl⟩
    · exact selA
theorem snext_c (A B : Blk) (hA : WB A) (hB : WB B) : Ctr Try.prog 43 [.agg (cb A).toArray, .agg (cb B).toArray] [] (fun _ => True) (fun v M => v = .int .i64 (nextM A B) ∧ M = []) := by
  refine Ctr.intro Try.func43 rfl Try.ntmps43 rfl fun x w hp => ?_
  refine wk ?_
  (refine CX.boxA ?_; intro r)
  refine wk ?_
  (refine CX.boxA ?_; intro s)
  refine wk ?_
  ((apply CX.ps; (· apply PS.loadG (vs := cb (A)); (· rfl); (· rfl); (· exact CellsAt.all (by first | exact pickA | exact updA)); (· exact hA.len))))
  ((apply CX.ps; (· apply PS.loadG (vs := cb (B)); (· rfl); (· rfl); (· exact CellsAt.all (by first | exact pickA | exact updA)); (· exact hB.len))))
  by_cases h1 : (getM A).1 = 0 ∧ (getM B).1 = 0
  · have e : newestM A B = (0, 7) := by unfold newestM; rw [if_pos h1]
    have e2 : nextM A B = 0 := by unfold nextM; rw [if_pos h1]
    (have cc := snewest_c A B hA hB; simp only [e] at cc; refine CX.callA cc ?_; clear cc; rintro _ _ ⟨rfl, rfl⟩)
    refine wk ?_
    rw [e2]
    ((apply CQ.end1; (· rfl); (· exact .tmp rfl)); (· exact ⟨rfl, rfl⟩); (· exact selA))
  by_cases h2 : (getM A).1 < (getM B).1
  · have e : newestM A B = (1, 0) := by unfold newestM; rw [if_neg h1, if_pos h2]
    have e2 : nextM A B = 0 := by unfold nextM; rw [if_neg h1, if_pos h2]
    (have cc := snewest_c A B hA hB; simp only [e] at cc; refine CX.callA cc ?_; clear cc; rintro _ _ ⟨rfl, rfl⟩)
    refine wk ?_
    refine CX.ps (PS.xorI 1 1 (by decide) (by decide) rfl rfl rfl) ?_
    refine wk ?_
    rw [e2]
    ((apply CQ.end1; (· rfl); (· exact .tmp rfl)); (· exact ⟨rfl, rfl⟩); (· exact selA))
  · have e : newestM A B = (0, 0) := by unfold newestM; rw [if_neg h1, if_neg h2]
    have e2 : nextM A B = 1 := by unfold nextM; rw [if_neg h1, if_neg h2]
    (have cc := snewest_c A B hA hB; simp only [e] at cc; refine CX.callA cc ?_; clear cc; rintro _ _ ⟨rfl, rfl⟩)
    refine wk ?_
    refine CX.ps (PS.xorI 0 1 (by decide) (by decide) rfl rfl rfl) ?_
    refine wk ?_
    rw [e2]
    ((apply CQ.end1; (· rfl); (· exact .tmp rfl)); (· exact ⟨rfl, rfl⟩); (· exact selA))
end Go.Proofs.Ytlckhaodecdbbaa
/-! Heads (head), in the program. -/
namespace Go.Cx
def hc (h : HdM) : List Value := [.int .u8 (h.bank : Int), .int .u32 (h.blocks : Int), .int .u32 (h.batches : Int)]
def maxB (C : Blk) : Nat := C.foldl (fun m c => Max.max m c.toNat) 0
theorem maxB_snoc (C : Blk) (c : UInt8) : maxB (C ++ [c]) = Max.max (maxB C) c.toNat := by simp [maxB]
theorem maxB_pos (C : Blk) : 0 < maxB C ↔ ∃ c ∈ C, c ≠ 0 := by
  have key : ∀ (C : Blk) (m : Nat), 0 < C.foldl (fun m c => Max.max m c.toNat) m ↔ (0 < m ∨ ∃ c ∈ C, c ≠ 0) := by
    intro C
    induction C with
    | nil => intro m; simp
    | cons x C ih =>
      intro m
      rw [List.foldl_cons, ih]
      have hx : 0 < x.toNat ↔ x ≠ 0 := by
        constructor
        · intro h e; rw [e] at h; exact absurd h (by decide)
        · intro h; rcases Nat.eq_zero_or_pos x.toNat with h0 | h0
          · exact absurd (UInt8.toNat_inj.1 h0) h
          · exact h0
      simp only [List.mem_cons, exists_eq_or_imp, ← hx]
      generalize (∃ c, c ∈ C ∧ c ≠ 0) = q
      constructor
      · rintro (h | h)
        · by_cases h2 : 0 < m
          · exact .inl h2
          · exact .inr (.inl (by omega))
        · exact .inr (.inr h)
      · rintro (h | h | h)
        · exact .inl (by omega)
        · exact .inl (by omega)
        · exact .inr h
  have := key C 0
  simpa [maxB] using this
theorem maxB_lt (C : Blk) : maxB C < 256 := by
  have key : ∀ (C : Blk) (m : Nat), m < 256 → C.foldl (fun m c => Max.max m c.toNat) m < 256 := by
    intro C
    induction C with
    | nil => intro m h; exact h
    | cons x C ih => intro m h; have := x.toNat_lt; exact ih _ (by dsimp only; omega)
  exact key C 0 (by omega)
theorem getN_from {B : Blk} {k : Nat} (hk : k = 1 ∨ k = 2 ∨ k = 4 ∨ k = 8) (h : k ≤ B.length) : getN B 0 (k : Int) = (ofLe (B.take k), 0) := by
  unfold getN
  rw [if_neg (by unfold okSize; omega), if_neg (by omega)]
  simp
theorem ofLe_tk (B : Blk) (k : Nat) : ofLe (B.take k) < 256 ^ k := Nat.lt_of_lt_of_le (ofLe_lt (B.take k)) (Nat.pow_le_pow_right (by omega) (by simp; omega))
theorem rdx_tail {g : Nat} {len : Nat} {B : Blk} {y : PH} (h : rdx (some ⟨g, 0, none⟩) len (cb B) y) (hl : len = B.length) (k : Nat) (hk : k ≤ B.length) : rdx (some ⟨g, k, none⟩) (B.length - k) (cb (B.drop k)) y := by
  have := rdx_part rfl h hl k (B.length - k) (by omega)
  rwa [Nat.zero_add, List.take_of_length_le (by simp)] at this
end Go.Cx
namespace Go.Proofs.Ytlckhaodecdbbaa
open Go.Cx
theorem run_eqHd (a b : HdM) (w : World) : (Op.equalIn 10000 68 (.agg (hc a).toArray) (.agg (hc b).toArray)).run Try.prog w = .ok (decide (a = b)) w := by
  have hu := Try.underlying68
  have hf : Try.prog.underlying 68 = some (.struct (Try.prog.fieldsOf 68)) := by simp only [Program.fieldsOf, hu]
  rw [run_equalIn_agg w 9999 68 _ _ hf Try.stoodInHeld68]
  simp only [Program.fieldsOf, hu]
  have e : (a = b) ↔ ((a.bank : Int) = b.bank ∧ (a.blocks : Int) = b.blocks ∧ (a.batches : Int) = b.batches) := by
    obtain ⟨a1, a2, a3⟩ := a
    obtain ⟨b1, b2, b3⟩ := b
    simp; omega
  simp only [Op.eqFields, part, hc]
  simp [Try.isAgg5, Try.isAgg66, run_equalIn_int w 9998 _ _ _ _ _ Try.underlying5, run_equalIn_int w 9998 _ _ _ _ _ Try.underlying66]
  by_cases h1 : (a.bank : Int) = b.bank
  · by_cases h2 : (a.blocks : Int) = b.blocks
    · by_cases h3 : (a.batches : Int) = b.batches
      · rw [if_pos h1, if_pos h2, if_pos h3, decide_eq_true (e.2 ⟨h1, h2, h3⟩)]
      · rw [if_pos h1, if_pos h2, if_neg h3, decide_eq_false (fun h => h3 (e.1 h).2.2)]
    · rw [if_pos h1, if_neg h2, decide_eq_false (fun h => h2 (e.1 h).2.1)]
  · rw [if_neg h1, decide_eq_false (fun h => h1 (e.1 h).1)]
section
variable {ops : Array Oper} {n : Nat} {env : Env} {L : List Assn}
variable {dst : Option Tmp} {ty : TypeId} {pos : String} {aft : Array Edge} {g : Option (Nat × Bool)}
theorem eqlHd {u : TypeId} {x y : Operand} {a b : HdM} (hg : gd ops n env g = some true) (hx : ev n env x = some (.agg (hc a).toArray)) (hy : ev n env y = some (.agg (hc b).toArray)) :
    PS Try.prog ops n env L ⟨dst, .binOp .eql 68 x y u, ty, pos, aft, g⟩ (.bool (decide (a = b))) :=
  ⟨hg, fun ac w hfr _ => by simp [execOp, hfr.eval hx, hfr.eval hy, run_eqGuard_agg w _ _ _ _ _ _ Try.eqGuardType68, run_eql_struct, run_eqHd]⟩
theorem neqHd {u : TypeId} {x y : Operand} {a b : HdM} (hg : gd ops n env g = some true) (hx : ev n env x = some (.agg (hc a).toArray)) (hy : ev n env y = some (.agg (hc b).toArray)) :
    PS Try.prog ops n env L ⟨dst, .binOp .neq 68 x y u, ty, pos, aft, g⟩ (.bool (decide (a ≠ b))) :=
  ⟨hg, fun ac w hfr _ => by simp [execOp, hfr.eval hx, hfr.eval hy, run_eqGuard_agg w _ _ _ _ _ _ Try.eqGuardType68, run_neq_struct, run_eqHd]⟩
end
attribute [local irreducible] Go.Cx.CX Go.Cx.CC Go.Cx.CQ Go.Cx.PS Go.Cx.Ctr Go.Cx.CH
set_option maxRecDepth 10000
theorem sizes_c : Ctr Try.prog 105 [] [] (fun _ => True) (fun v M => v = .agg #[.int .i64 1, .int .i64 4, .int .i64 4] ∧ M = []) := by
  refine Ctr.intro Try.func105 rfl Try.ntmps105 rfl fun x w hp => ?_
  refine wk ?_
  (refine CX.allocA ?_; intro r)
  refine wk ?_
  (apply CX.ps; (· apply PS.buildArr (out := [.int .i64 1, .int .i64 4, .int .i64 4]); (· rfl); (· rfl); (· rfl)))
  (refine CX.storeB (vs := [.int .i64 1, .int .i64 4, .int .i64 4]) ?_ ?_ ?_ ?_; (· rfl); (· rfl); (· exact one_all rfl))
  refine wk ?_
  ((apply CQ.end1; (· rfl); (· exact .cells inferInstance rfl (CellsAt.all (by first | exact pickA | exact updA)) (rfl))); (· exact ⟨rfl, rfl⟩); (· exact selA))
theorem may_c (h : HdM) : Ctr Try.prog 50 [.agg (hc h).toArray] [] (fun _ => True) (fun v M => v = .bool (decide h.may) ∧ M = []) := by
  refine Ctr.intro Try.func50 rfl Try.ntmps50 rfl fun x w hp => ?_
  refine wk ?_
  (refine CX.boxA (vs := hc h) ?_; intro r)
  by_cases h1 : h.bank < 2
  · by_cases h2 : h.blocks ≤ 4096
    · by_cases h3 : h.batches ≤ h.blocks
      · refine wk ?_
        ((apply CQ.end1; (· rfl); (· exact .tmp rfl)); (· exact ⟨by rw [decide_eq_true (show h.may from ⟨h1, h2, h3⟩)], rfl⟩); (· exact selA))
      · refine wk ?_
        ((apply CQ.end1; (· rfl); (· exact .tmp rfl)); (· exact ⟨by rw [decide_eq_false (show ¬ h.may from fun q => h3 q.2.2)], rfl⟩); (· exact selA))
    · refine wk ?_
      ((apply CQ.end1; (· rfl); (· exact .tmp rfl)); (· exact ⟨by rw [decide_eq_false (show ¬ h.may from fun q => h2 q.2.1)], rfl⟩); (· exact selA))
  · refine wk ?_
    ((apply CQ.end1; (· rfl); (· exact .tmp rfl)); (· exact ⟨by rw [decide_eq_false (show ¬ h.may from fun q => h1 q.1)], rfl⟩); (· exact selA))
theorem hput_c (n : Nat) (hn : n ≤ top) (h : HdM) (ok : h.ok) : Ctr Try.prog 48 [.int .u64 (n : Int), .agg (hc h).toArray] [] (fun _ => True) (fun v M => v = .tuple #[.agg (cb (putH n h).1).toArray, .int .i64 (putH n h).2] ∧ M = []) := by
  have o1 := ok.bank
  have o2 := ok.blocks
  have o3 := ok.batches
  refine Ctr.intro Try.func48 rfl Try.ntmps48 rfl fun x w hp => ?_
  refine wk ?_
  (refine CX.boxA (vs := hc h) ?_; intro r)
  (refine CX.allocZ (cb zblk) ?_; intro s)
  by_cases h1 : n = 0
  · have e : putH n h = (zblk, 2) := by unfold putH; rw [if_pos (.inl h1)]
    rw [e]
    refine wk ?_
    (apply CX.ps; (· apply PS.buildZ (vs := cb zblk); (· rfl); (· simp [cb_z, Value.cells])))
    (apply CX.storeAll; (· rfl); (· rfl); (· rfl); (· first | exact pickA | exact updA); (· exact WB_z.len); (· exact WB_z.len); (· exact one_cb _))
    refine wk ?_
    ((apply CQ.end2; (· rfl); (· exact .cells inferInstance rfl (CellsAt.all (by first | exact pickA | exact updA)) (WB_z.len)); (· exact .tmp rfl)); (· exact ⟨rfl, rfl⟩); (· exact selA))
  by_cases h2 : 4611686018427387904 < n
  · have e : putH n h = (zblk, 2) := by unfold putH; rw [if_pos (.inr (.inl h2))]
    rw [e]
    refine wk ?_
    (apply CX.ps; (· apply PS.buildZ (vs := cb zblk); (· rfl); (· simp [cb_z, Value.cells])))
    (apply CX.storeAll; (· rfl); (· rfl); (· rfl); (· first | exact pickA | exact updA); (· exact WB_z.len); (· exact WB_z.len); (· exact one_cb _))
    refine wk ?_
    ((apply CQ.end2; (· rfl); (· exact .cells inferInstance rfl (CellsAt.all (by first | exact pickA | exact updA)) (WB_z.len)); (· exact .tmp rfl)); (· exact ⟨rfl, rfl⟩); (· exact selA))
  by_cases h3 : h.may
  · have e : putH n h = (sealB n h.bytes, 0) := by unfold putH; rw [if_neg]; rintro (q | q | q) <;> first | exact h1 q | exact h2 q | exact q h3
    have ep : putM n h.bytes = (sealB n h.bytes, 0) := by unfold putM; rw [if_neg h1, if_neg (by rw [bytes_len]; omega)]
    have wB : WB (sealB n h.bytes) := sealB_WB (by rw [bytes_len]; omega)
    rw [e]
    refine wk ?_
    ((apply CX.ps; (· apply PS.loadG (vs := hc h); (· rfl); (· rfl); (· exact CellsAt.all (by first | exact pickA | exact updA)); (· rfl))))
    (have cc := may_c h; simp only [decide_eq_true h3] at cc; refine CX.callA cc ?_; clear cc; rintro _ _ ⟨rfl, rfl⟩)
    refine wk ?_
    (apply CX.ps; (· apply PS.buildArr (out := [.int .u64 (h.bank : Int), .int .u64 (h.blocks : Int), .int .u64 (h.batches : Int)]); (· rfl); (· rfl); (· rfl)))
    refine wk ?_
    refine CC.ownNil 5 1 ?_
    refine CC.loop (X := Nat × Option Addr × Nat × Blk) (fun q => [(33, .int .i64 (q.1 : Int)), (6, .slice q.2.1 q.2.2.2.length q.2.2.1), (32, .agg [.int .u64 (h.bank : Int), .int .u64 (h.blocks : Int), .int .u64 (h.batches : Int)].toArray), (0, .int .u64 (n : Int)), (4, .pointer (some ⟨s, 0, none⟩))])
      (fun q => [own 5 1 q.2.1 q.2.2.2.length q.2.2.1 (cb q.2.2.2), bk s 29 (cb zblk), exact x]) (fun q => (q.1 = 0 ∧ q.2.2.2 = []) ∨ (q.1 = 1 ∧ q.2.2.2 = le 1 h.bank) ∨ (q.1 = 2 ∧ q.2.2.2 = le 1 h.bank ++ le 4 h.blocks) ∨ (q.1 = 3 ∧ q.2.2.2 = h.bytes)) (fun q => 3 - q.1)
      (0, none, 0, []) (.inl ⟨rfl, rfl⟩) ⟨rfl, rfl, rfl, rfl, rfl, trivial⟩ (by exact selA) ?_
    have step : ∀ (B : Blk) (v k : Nat), v < 256 ^ k → True := fun _ _ _ _ => trivial
    rintro ⟨i, a, c, B⟩ (⟨e1, e2⟩ | ⟨e1, e2⟩ | ⟨e1, e2⟩ | ⟨e1, e2⟩) <;> dsimp only at e1 e2 <;> subst e1 <;> subst e2
    · refine wk ?_
      refine CX.ps (PS.indexS (j := 0) rfl rfl rfl rfl (by decide) rfl) ?_
      refine wk ?_
      refine CX.callA (sizes_c) ?_
      rintro _ _ ⟨rfl, rfl⟩
      refine wk ?_
      refine CX.ps (PS.indexS (j := 0) rfl rfl rfl rfl (by decide) rfl) ?_
      refine CX.callA (nput_c h.bank 1 (by omega) (by omega)) ?_
      rintro _ _ ⟨pb, rfl, rfl⟩
      refine wk ?_
      apply CX.append (m := 1) (news := cb (le 1 h.bank))
      · rfl
      · rfl
      · rfl
      · first | exact pickA | exact updA
      · exact RdS.own (by first | exact pickA | exact updA) (one_cb _) rfl
      · simp
      · intro hh; cases hh
      intro a' c'
      rw [← cb_append]
      refine wk ?_
      exact CQ.round (x := (0, a, c, [])) (1, a', c', le 1 h.bank) (.inr (.inl ⟨rfl, rfl⟩)) (by dsimp only; omega) ⟨rfl, rfl, rfl, rfl, rfl, trivial⟩ (by exact selA)
    · refine wk ?_
      refine CX.ps (PS.indexS (j := 1) rfl rfl rfl rfl (by decide) rfl) ?_
      refine wk ?_
      refine CX.callA (sizes_c) ?_
      rintro _ _ ⟨rfl, rfl⟩
      refine wk ?_
      refine CX.ps (PS.indexS (j := 1) rfl rfl rfl rfl (by decide) rfl) ?_
      refine CX.callA (nput_c h.blocks 4 (by omega) (by omega)) ?_
      rintro _ _ ⟨pb, rfl, rfl⟩
      refine wk ?_
      apply CX.append (m := 4) (news := cb (le 4 h.blocks))
      · rfl
      · rfl
      · rfl
      · first | exact pickA | exact updA
      · exact RdS.own (by first | exact pickA | exact updA) (one_cb _) rfl
      · simp
      · intro hh; cases hh
      intro a' c'
      rw [← cb_append]
      refine wk ?_
      exact CQ.round (x := (1, a, c, le 1 h.bank)) (2, a', c', le 1 h.bank ++ le 4 h.blocks) (.inr (.inr (.inl ⟨rfl, rfl⟩))) (by dsimp only; omega) ⟨rfl, rfl, rfl, rfl, rfl, trivial⟩ (by exact selA)
    · refine wk ?_
      refine CX.ps (PS.indexS (j := 2) rfl rfl rfl rfl (by decide) rfl) ?_
      refine wk ?_
      refine CX.callA (sizes_c) ?_
      rintro _ _ ⟨rfl, rfl⟩
      refine wk ?_
      refine CX.ps (PS.indexS (j := 2) rfl rfl rfl rfl (by decide) rfl) ?_
      refine CX.callA (nput_c h.batches 4 (by omega) (by omega)) ?_
      rintro _ _ ⟨pb, rfl, rfl⟩
      refine wk ?_
      apply CX.append (m := 4) (news := cb (le 4 h.batches))
      · rfl
      · rfl
      · rfl
      · first | exact pickA | exact updA
      · exact RdS.own (by first | exact pickA | exact updA) (one_cb _) rfl
      · simp
      · intro hh; cases hh
      intro a' c'
      rw [← cb_append, List.append_assoc]
      refine wk ?_
      exact CQ.round (x := (2, a, c, le 1 h.bank ++ le 4 h.blocks)) (3, a', c', h.bytes) (.inr (.inr (.inr ⟨rfl, rfl⟩))) (by dsimp only; omega) ⟨rfl, rfl, rfl, rfl, rfl, trivial⟩ (by exact selA)
    · dsimp only
      refine wk ?_
      (have cc := sput_c n hn h.bytes (by rw [bytes_len]; omega) a c; simp only [ep] at cc; refine CX.callA cc ?_ (hpre := by exact rdx_own (e := 5) (by first | exact pickA | exact updA) rfl); clear cc; rintro _ _ ⟨rfl, rfl⟩)
      refine wk ?_
      (apply CX.storeAll; (· rfl); (· rfl); (· rfl); (· first | exact pickA | exact updA); (· exact wB.len); (· exact WB_z.len); (· exact one_cb _))
      refine wk ?_
      ((apply CQ.end2; (· rfl); (· exact .cells inferInstance rfl (CellsAt.all (by first | exact pickA | exact updA)) (wB.len)); (· exact .tmp rfl)); (· exact ⟨rfl, rfl⟩); (· exact selA))
  · have e : putH n h = (zblk, 2) := by unfold putH; rw [if_pos (.inr (.inr h3))]
    rw [e]
    refine wk ?_
    ((apply CX.ps; (· apply PS.loadG (vs := hc h); (· rfl); (· rfl); (· exact CellsAt.all (by first | exact pickA | exact updA)); (· rfl))))
    (have cc := may_c h; simp only [decide_eq_false h3] at cc; refine CX.callA cc ?_; clear cc; rintro _ _ ⟨rfl, rfl⟩)
    refine wk ?_
    (apply CX.ps; (· apply PS.buildZ (vs := cb zblk); (· rfl); (· simp [cb_z, Value.cells])))
    (apply CX.storeAll; (· rfl); (· rfl); (· rfl); (· first | exact pickA | exact updA); (· exact WB_z.len); (· exact WB_z.len); (· exact one_cb _))
    refine wk ?_
    ((apply CQ.end2; (· rfl); (· exact .cells inferInstance rfl (CellsAt.all (by first | exact pickA | exact updA)) (WB_z.len)); (· exact .tmp rfl)); (· exact ⟨rfl, rfl⟩); (· exact selA))
end Go.Proofs.Ytlckhaodecdbbaa
/-! Heads (head), in the program: what is read. -/
namespace Go.Proofs.Ytlckhaodecdbbaa
open Go.Cx
attribute [local irreducible] Go.Cx.CX Go.Cx.CC Go.Cx.CQ Go.Cx.PS Go.Cx.Ctr Go.Cx.CH
set_option maxRecDepth 10000
theorem slmax_c (C : Blk) (h0 : 0 < C.length) (hC : C.length ≤ 9223372036854775807) (a : Option Addr) (cap : Nat) : Ctr Try.prog 108 [.slice a C.length cap] [] (fun x => rdx a C.length (cb C) x) (fun v M => v = .int .u8 (maxB C : Int) ∧ M = []) := by
  refine Ctr.intro Try.func108 rfl Try.ntmps108 rfl fun x w hp => ?_
  obtain ⟨g, off, rfl⟩ := rdx_some hp h0
  have e1 : maxB (C.take 1) = C[0].toNat := by
    rw [List.take_succ_eq_append_getElem h0, maxB_snoc]; simp [maxB]
  refine wk ?_
  (refine CX.indexA (0) ?_ ?_; (· exact h0))
  (refine CX.loadA _ (CellAt.rd (j := 0) (by first | exact pickA | exact updA) hp rfl h0) ?_)
  rw [← e1]
  refine wk ?_
  refine CC.loop (X := Nat) (fun i => [(4, .int .i64 (i : Int)), (3, .int .u8 (maxB (C.take i) : Int)), (0, .slice (some ⟨g, off, none⟩) C.length cap)])
    (fun i => [exact x]) (fun i => 1 ≤ i ∧ i ≤ C.length) (fun i => C.length - i) 1 ⟨Nat.le_refl _, h0⟩ ⟨rfl, rfl, rfl, trivial⟩ (by exact selA) ?_
  rintro i ⟨hi0, hi⟩
  by_cases h1 : i < C.length
  · have e2 : maxB (C.take (i + 1)) = Max.max (maxB (C.take i)) C[i].toNat := by rw [List.take_succ_eq_append_getElem h1, maxB_snoc]
    refine wk ?_
    (refine CX.indexA (i) ?_ ?_; (· exact h1))
    (refine CX.loadA _ (CellAt.rd (j := i) (by first | exact pickA | exact updA) hp rfl h1) ?_)
    refine wk ?_
    exact CQ.round (i + 1) ⟨by omega, by omega⟩ (by omega) ⟨eqI (by omega), eqI (by rw [e2]; omega), rfl, trivial⟩ (by exact selA)
  · obtain rfl : i = C.length := by omega
    rw [List.take_length]
    refine wk ?_
    ((apply CQ.end1; (· rfl); (· exact .tmp rfl)); (· exact ⟨rfl, rfl⟩); (· exact selA))
def GotH (B : Blk) (v : Value) (M : List Assn) : Prop := v = .tuple #[.int .u64 ((getH B).1 : Int), .agg (hc (getH B).2.1).toArray, .int .i64 (getH B).2.2] ∧ M = []
theorem hget_c (B : Blk) (hB : WB B) : Ctr Try.prog 53 [.agg (cb B).toArray] [] (fun _ => True) (GotH B) := by
  have hB' : B.length = 128 := hB
  refine Ctr.intro Try.func53 rfl Try.ntmps53 rfl fun x w hp => ?_
  refine wk ?_
  (refine CX.boxA ?_; intro r)
  refine wk ?_
  refine CX.allocZ (hc HdM.z) ?_ (hv := rfl)
  intro rh
  refine wk ?_
  ((apply CX.ps; (· apply PS.loadG (vs := cb (B)); (· rfl); (· rfl); (· exact CellsAt.all (by first | exact pickA | exact updA)); (· exact hB.len))))
  refine CX.callA (sget_c B hB) ?_
  rintro _ _ ⟨a, c, rfl, rfl⟩
  by_cases he : (getM B).2.2 = 0
  · have hv := get_valid he
    have g := get_ok hv
    have hl : ((B.drop 8).take 108).length = 108 := by simp; omega
    have eb : (getM B).2.1 = (B.drop 8).take 108 := by rw [g]
    have hn : (getM B).1 < 18446744073709551616 := getM_lt B
    rw [eb, hl, he]
    have hH : getH B = if most < (getM B).1 ∨ ¬ (ofBody ((B.drop 8).take 108)).may ∨ ∃ c ∈ ((B.drop 8).take 108).drop 9, c ≠ 0 then (0, HdM.z, 5) else ((getM B).1, ofBody ((B.drop 8).take 108), 0) := by
      unfold getH; rw [if_neg (by simp [he]), eb]
    generalize (B.drop 8).take 108 = D at hl hH
    generalize (getM B).1 = n at hn hH
    refine CX.fact (own_fact (e := 5) (by first | exact pickA | exact updA) (by omega)) ?_
    rintro ⟨hc1, q, rfl⟩
    refine wk ?_
    (refine CX.allocA ?_; intro rl)
    refine wk ?_
    refine CX.callA (sizes_c) ?_
    rintro _ _ ⟨rfl, rfl⟩
    refine wk ?_
    have b1 := ofLe_tk D 1
    have b2 := ofLe_tk (D.drop 1) 4
    have b3 := ofLe_tk (D.drop 5) 4
    refine CC.loop (X := Nat × Nat × List Value) (fun s => [(23, .int .i64 (s.1 : Int)), (6, .slice (some ⟨q, s.2.1, none⟩) (108 - s.2.1) (c - s.2.1)), (22, .agg #[.int .i64 1, .int .i64 4, .int .i64 4]), (8, .pointer (some ⟨rl, 0, none⟩)), (5, .int .u64 (n : Int)), (3, .pointer (some ⟨rh, 0, none⟩))])
      (fun s => [own 5 1 (some ⟨q, 0, none⟩) 108 c (cb D), bk rl 146 s.2.2, bk rh 68 (hc HdM.z), exact x])
      (fun s => s = (0, 0, [.int .u64 0, .int .u64 0, .int .u64 0]) ∨ s = (1, 1, [.int .u64 (ofLe (D.take 1) : Int), .int .u64 0, .int .u64 0]) ∨ s = (2, 5, [.int .u64 (ofLe (D.take 1) : Int), .int .u64 (ofLe ((D.drop 1).take 4) : Int), .int .u64 0]) ∨
        s = (3, 9, [.int .u64 (ofLe (D.take 1) : Int), .int .u64 (ofLe ((D.drop 1).take 4) : Int), .int .u64 (ofLe ((D.drop 5).take 4) : Int)])) (fun s => 3 - s.1)
      (0, 0, [.int .u64 0, .int .u64 0, .int .u64 0]) (.inl rfl) ⟨rfl, rfl, rfl, rfl, rfl, rfl, trivial⟩ (by exact selA) ?_
    have pre : ∀ {L L' : List Assn} (k : Nat), k ≤ 108 → Pick (own 5 1 (some ⟨q, 0, none⟩) 108 c (cb D)) L L' → ∀ y, Sep L y → rdx (some ⟨q, k, none⟩) (108 - k) (cb (D.drop k)) y := fun k hk p y hy => by
      have := rdx_tail (rdx_own p hl.symm y hy) hl.symm k (by omega)
      rwa [hl] at this
    have num : ∀ (k m : Nat), m = 1 ∨ m = 4 → k + m ≤ 108 → Ctr Try.prog 107 [.slice (some ⟨q, k, none⟩) (108 - k) (c - k), .int .i64 0, .int .i64 (m : Int)] [] (fun x => rdx (some ⟨q, k, none⟩) (108 - k) (cb (D.drop k)) x) (fun v M => v = .tuple #[.int .u64 (ofLe ((D.drop k).take m) : Int), .int .i64 0] ∧ M = []) := fun k m hm hk => by
      have cc := nget_c (D.drop k) (some ⟨q, k, none⟩) (c - k) 0 (m : Int) (by simp; omega) (by omega) (by omega)
      rw [getN_from (by omega) (by simp; omega)] at cc
      have e1 : (D.drop k).length = 108 - k := by simp [hl]
      rw [e1] at cc
      exact cc
    rintro ⟨i, o, cs⟩ (h | h | h | h) <;> simp only [Prod.mk.injEq] at h <;> obtain ⟨rfl, rfl, rfl⟩ := h
    · dsimp only
      refine wk ?_
      refine CX.ps (PS.indexS (j := 0) rfl rfl rfl rfl (by decide) rfl) ?_
      refine wk ?_
      refine CX.callA (num 0 1 (by omega) (by omega)) ?_ (hpre := by exact pre 0 (by omega) (by first | exact pickA | exact updA))
      rintro _ _ ⟨rfl, rfl⟩
      refine wk ?_
      refine CX.ps (PS.indexArr (j := 0) rfl rfl rfl rfl (by omega)) ?_
      refine wk ?_
      refine CX.ps (PS.sliceLo (l := 1) rfl rfl rfl rfl (by omega) (by omega)) ?_
      rw [if_neg (by omega)]
      refine wk ?_
      exact CQ.round (x := (0, 0, [.int .u64 0, .int .u64 0, .int .u64 0])) (1, 1, [.int .u64 (ofLe (D.take 1) : Int), .int .u64 0, .int .u64 0]) (.inr (.inl rfl)) (by dsimp only; omega) ⟨rfl, rfl, rfl, rfl, rfl, rfl, trivial⟩ (by exact selA)
    · dsimp only
      refine wk ?_
      refine CX.ps (PS.indexS (j := 1) rfl rfl rfl rfl (by decide) rfl) ?_
      refine wk ?_
      refine CX.callA (num 1 4 (by omega) (by omega)) ?_ (hpre := by exact pre 1 (by omega) (by first | exact pickA | exact updA))
      rintro _ _ ⟨rfl, rfl⟩
      refine wk ?_
      refine CX.ps (PS.indexArr (j := 1) rfl rfl rfl rfl (by omega)) ?_
      refine wk ?_
      refine CX.ps (PS.sliceLo (l := 4) rfl rfl rfl rfl (by omega) (by omega)) ?_
      rw [if_neg (by omega)]
      refine wk ?_
      exact CQ.round (x := (1, 1, [.int .u64 (ofLe (D.take 1) : Int), .int .u64 0, .int .u64 0])) (2, 5, [.int .u64 (ofLe (D.take 1) : Int), .int .u64 (ofLe ((D.drop 1).take 4) : Int), .int .u64 0]) (.inr (.inr (.inl rfl))) (by dsimp only; omega) ⟨rfl, slE2 (by first | rfl | (dsimp only; omega)) (by first | rfl | omega | (dsimp only; omega)), rfl, rfl, rfl, rfl, trivial⟩ (by exact selA)
    · dsimp only
      refine wk ?_
      refine CX.ps (PS.indexS (j := 2) rfl rfl rfl rfl (by decide) rfl) ?_
      refine wk ?_
      refine CX.callA (num 5 4 (by omega) (by omega)) ?_ (hpre := by exact pre 5 (by omega) (by first | exact pickA | exact updA))
      rintro _ _ ⟨rfl, rfl⟩
      refine wk ?_
      refine CX.ps (PS.indexArr (j := 2) rfl rfl rfl rfl (by omega)) ?_
      refine wk ?_
      refine CX.ps (PS.sliceLo (l := 4) rfl rfl rfl rfl (by omega) (by omega)) ?_
      rw [if_neg (by omega)]
      refine wk ?_
      exact CQ.round (x := (2, 5, [.int .u64 (ofLe (D.take 1) : Int), .int .u64 (ofLe ((D.drop 1).take 4) : Int), .int .u64 0])) (3, 9, [.int .u64 (ofLe (D.take 1) : Int), .int .u64 (ofLe ((D.drop 1).take 4) : Int), .int .u64 (ofLe ((D.drop 5).take 4) : Int)]) (.inr (.inr (.inr rfl))) (by dsimp only; omega) ⟨rfl, slE2 (by first | rfl | (dsimp only; omega)) (by first | rfl | omega | (dsimp only; omega)), rfl, rfl, rfl, rfl, trivial⟩ (by exact selA)
    · dsimp only
      refine wk ?_
      refine CX.ps (PS.indexArr (j := 0) rfl rfl rfl rfl (by omega)) ?_
      refine wk ?_
      refine CX.ps (PS.indexArr (j := 1) rfl rfl rfl rfl (by omega)) ?_
      refine wk ?_
      refine CX.ps (PS.indexArr (j := 2) rfl rfl rfl rfl (by omega)) ?_
      refine wk ?_
      (apply CX.ps; (· apply PS.build (out := hc (ofBody D)); (· rfl); (· rfl); (· rfl)))
      refine CX.allocZ (hc HdM.z) ?_ (hv := rfl)
      intro rk
      (refine CX.storeB (vs := hc (ofBody D)) ?_ ?_ ?_ ?_; (· rfl); (· rfl); (· exact one_all rfl))
      by_cases h1 : 4611686018427387904 < n
      · have e : getH B = (0, HdM.z, 5) := by rw [hH, if_pos (.inl h1)]
        refine wk ?_
        (apply CX.ps; (· apply PS.build (vs := []) (out := hc HdM.z); (· rfl); (· rfl); (· rfl)))
        refine wk ?_
        (refine CX.storeB (vs := hc HdM.z) ?_ ?_ ?_ ?_; (· rfl); (· rfl); (· exact one_all rfl))
        refine wk ?_
        (apply CQ.end3; (· rfl); (· exact .tmp rfl); (· exact .cells inferInstance rfl (CellsAt.all (by first | exact pickA | exact updA)) rfl); (· exact .tmp rfl))
        · exact ⟨by rw [e] <;> rfl, rfl⟩
        · exact selA
      by_cases h2 : (ofBody D).may
      · by_cases h3 : ∃ c ∈ D.drop 9, c ≠ 0
        · have e : getH B = (0, HdM.z, 5) := by rw [hH, if_pos (.inr (.inr h3))]
          have hm := (maxB_pos (D.drop 9)).2 h3
          refine wk ?_
          ((apply CX.ps; (· apply PS.loadG (vs := hc (ofBody D)); (· rfl); (· rfl); (· exact CellsAt.all (by first | exact pickA | exact updA)); (· rfl))))
          (have cc := may_c (ofBody D); simp only [decide_eq_true h2] at cc; refine CX.callA cc ?_; clear cc; rintro _ _ ⟨rfl, rfl⟩)
          refine wk ?_
          have cc := slmax_c (D.drop 9) (by simp; omega) (by simp; omega) (some ⟨q, 9, none⟩) (c - 9)
          rw [show (D.drop 9).length = 108 - 9 by simp [hl]] at cc
          refine CX.callA (cc) ?_ (hpre := by exact pre 9 (by omega) (by first | exact pickA | exact updA))
          clear cc
          rintro _ _ ⟨rfl, rfl⟩
          refine wk ?_
          (apply CX.ps; (· apply PS.build (vs := []) (out := hc HdM.z); (· rfl); (· rfl); (· rfl)))
          refine wk ?_
          (refine CX.storeB (vs := hc HdM.z) ?_ ?_ ?_ ?_; (· rfl); (· rfl); (· exact one_all rfl))
          refine wk ?_
          (apply CQ.end3; (· rfl); (· exact .tmp rfl); (· exact .cells inferInstance rfl (CellsAt.all (by first | exact pickA | exact updA)) rfl); (· exact .tmp rfl))
          · exact ⟨by rw [e] <;> rfl, rfl⟩
          · exact selA
        · have e : getH B = (n, ofBody D, 0) := by
            rw [hH, if_neg]; rintro (k | k | k)
            · exact h1 k
            · exact k h2
            · exact h3 k
          have hm : maxB (D.drop 9) = 0 := by
            rcases Nat.eq_zero_or_pos (maxB (D.drop 9)) with k | k
            · exact k
            · exact absurd ((maxB_pos _).1 k) h3
          refine wk ?_
          ((apply CX.ps; (· apply PS.loadG (vs := hc (ofBody D)); (· rfl); (· rfl); (· exact CellsAt.all (by first | exact pickA | exact updA)); (· rfl))))
          (have cc := may_c (ofBody D); simp only [decide_eq_true h2] at cc; refine CX.callA cc ?_; clear cc; rintro _ _ ⟨rfl, rfl⟩)
          refine wk ?_
          have cc := slmax_c (D.drop 9) (by simp; omega) (by simp; omega) (some ⟨q, 9, none⟩) (c - 9)
          rw [show (D.drop 9).length = 108 - 9 by simp [hl], hm] at cc
          refine CX.callA (cc) ?_ (hpre := by exact pre 9 (by omega) (by first | exact pickA | exact updA))
          clear cc
          rintro _ _ ⟨rfl, rfl⟩
          refine wk ?_
          refine CC.draw [(0, 0), (1, 1), (2, 0), (3, 3), (4, 0)] mixed rfl (by kernel_rfl) (by kernel_rfl) [bk rk 68 (hc (ofBody D))] ?_
          refine hwk ?_
          (apply CH.read; (· rfl); (· apply PS.loadG (vs := hc (ofBody D)); (· rfl); (· rfl); (· exact CellsAt.all (by first | exact pickA | exact updA)); (· rfl)); (· exact selA))
          refine hwk ?_
          refine CH.tail rfl rfl fun K hK => ?_
          (refine CX.storeB (vs := hc (ofBody D)) ?_ ?_ ?_ ?_; (· rfl); (· rfl); (· exact one_all rfl))
          (refine CX.nil ?_; refine CQ.thenK ?_; apply hK; clear hK K)
          refine hwk ?_
          refine wk ?_
          (apply CQ.end3; (· rfl); (· exact .tmp rfl); (· exact .cells inferInstance rfl (CellsAt.all (by first | exact pickA | exact updA)) rfl); (· exact .tmp rfl))
          · exact ⟨by rw [e] <;> rfl, rfl⟩
          · exact selA
      · have e : getH B = (0, HdM.z, 5) := by rw [hH, if_pos (.inr (.inl h2))]
        refine wk ?_
        ((apply CX.ps; (· apply PS.loadG (vs := hc (ofBody D)); (· rfl); (· rfl); (· exact CellsAt.all (by first | exact pickA | exact updA)); (· rfl))))
        (have cc := may_c (ofBody D); simp only [decide_eq_false h2] at cc; refine CX.callA cc ?_; clear cc; rintro _ _ ⟨rfl, rfl⟩)
        refine wk ?_
        (apply CX.ps; (· apply PS.build (vs := []) (out := hc HdM.z); (· rfl); (· rfl); (· rfl)))
        refine wk ?_
        (refine CX.storeB (vs := hc HdM.z) ?_ ?_ ?_ ?_; (· rfl); (· rfl); (· exact one_all rfl))
        refine wk ?_
        (apply CQ.end3; (· rfl); (· exact .tmp rfl); (· exact .cells inferInstance rfl (CellsAt.all (by first | exact pickA | exact updA)) rfl); (· exact .tmp rfl))
        · exact ⟨by rw [e] <;> rfl, rfl⟩
        · exact selA
  · have e : getH B = (0, HdM.z, (getM B).2.2) := by unfold getH; rw [if_pos he]
    generalize (getM B).2.2 = er at he e
    refine wk ?_
    (apply CX.ps; (· apply PS.build (vs := []) (out := hc HdM.z); (· rfl); (· rfl); (· rfl)))
    refine wk ?_
    (refine CX.storeB (vs := hc HdM.z) ?_ ?_ ?_ ?_; (· rfl); (· rfl); (· exact one_all rfl))
    refine wk ?_
    (apply CQ.end3; (· rfl); (· exact .tmp rfl); (· exact .cells inferInstance rfl (CellsAt.all (by first | exact pickA | exact updA)) rfl); (· exact .tmp rfl))
    · exact ⟨by rw [e] <;> rfl, rfl⟩
    · exact selA
theorem hnewest_c (A B : Blk) (hA : WB A) (hB : WB B) : Ctr Try.prog 55 [.agg (cb A).toArray, .agg (cb B).toArray] [] (fun _ => True)
    (fun v M => v = .tuple #[.int .u64 ((newH A B).1 : Int), .agg (hc (newH A B).2.1).toArray, .int .i64 (newH A B).2.2] ∧ M = []) := by
  refine Ctr.intro Try.func55 rfl Try.ntmps55 rfl fun x w hp => ?_
  refine wk ?_
  (refine CX.boxA ?_; intro r)
  refine wk ?_
  (refine CX.boxA ?_; intro s)
  refine wk ?_
  refine CX.allocZ (hc HdM.z) ?_ (hv := rfl)
  intro ro
  refine wk ?_
  ((apply CX.ps; (· apply PS.loadG (vs := cb (A)); (· rfl); (· rfl); (· exact CellsAt.all (by first | exact pickA | exact updA)); (· exact hA.len))))
  refine CX.callA (hget_c A hA) ?_
  rintro _ _ ⟨rfl, rfl⟩
  refine wk ?_
  refine CX.allocZ (hc HdM.z) ?_ (hv := rfl)
  intro ra
  refine wk ?_
  (refine CX.storeB (vs := hc (getH A).2.1) ?_ ?_ ?_ ?_; (· rfl); (· rfl); (· exact one_all rfl))
  refine wk ?_
  ((apply CX.ps; (· apply PS.loadG (vs := cb (B)); (· rfl); (· rfl); (· exact CellsAt.all (by first | exact pickA | exact updA)); (· exact hB.len))))
  refine CX.callA (hget_c B hB) ?_
  rintro _ _ ⟨rfl, rfl⟩
  refine wk ?_
  refine CX.allocZ (hc HdM.z) ?_ (hv := rfl)
  intro rb
  refine wk ?_
  (refine CX.storeB (vs := hc (getH B).2.1) ?_ ?_ ?_ ?_; (· rfl); (· rfl); (· exact one_all rfl))
  have eN : newH A B = if (getH A).2.2 ≠ 0 ∧ (getH B).2.2 ≠ 0 then (0, HdM.z, 7) else if (getH A).2.2 ≠ 0 ∨ ((getH B).2.2 = 0 ∧ (getH A).1 < (getH B).1) then ((getH B).1, (getH B).2.1, 0) else ((getH A).1, (getH A).2.1, 0) := rfl
  generalize newH A B = N at eN
  generalize (getH A).2.2 = ea at eN
  generalize (getH B).2.2 = eb at eN
  generalize (getH A).1 = na at eN
  generalize (getH B).1 = nb at eN
  generalize (getH A).2.1 = ka at eN
  generalize (getH B).2.1 = kb at eN
  by_cases h1 : ea = 0
  · by_cases h2 : eb = 0 ∧ na < nb
    · obtain ⟨h3, h4⟩ := h2
      have e : N = (nb, kb, 0) := by rw [eN, if_neg (by simp [h1]), if_pos (.inr ⟨h3, h4⟩)]
      refine wk ?_
      refine CC.draw [(0, 0), (1, 1), (2, 0), (3, 3), (4, 0)] mixed rfl (by kernel_rfl) (by kernel_rfl) [bk rb 68 (hc kb)] ?_
      refine hwk ?_
      (apply CH.read; (· rfl); (· apply PS.loadG (vs := hc kb); (· rfl); (· rfl); (· exact CellsAt.all (by first | exact pickA | exact updA)); (· rfl)); (· exact selA))
      refine hwk ?_
      refine CH.tail rfl rfl fun K hK => ?_
      (refine CX.storeB (vs := hc kb) ?_ ?_ ?_ ?_; (· rfl); (· rfl); (· exact one_all rfl))
      (refine CX.nil ?_; refine CQ.thenK ?_; apply hK; clear hK K)
      refine hwk ?_
      refine wk ?_
      (apply CQ.end3; (· rfl); (· exact .tmp rfl); (· exact .cells inferInstance rfl (CellsAt.all (by first | exact pickA | exact updA)) rfl); (· exact .tmp rfl))
      · exact ⟨by rw [e] <;> rfl, rfl⟩
      · exact selA
    · have e : N = (na, ka, 0) := by rw [eN, if_neg (by simp [h1]), if_neg (by simp [h1]; omega)]
      by_cases h3 : eb = 0
      · have h4 : ¬ na < nb := fun q => h2 ⟨h3, q⟩
        refine wk ?_
        refine CC.draw [(0, 0), (1, 1), (2, 0), (3, 3), (4, 0)] mixed rfl (by kernel_rfl) (by kernel_rfl) [bk ra 68 (hc ka)] ?_
        refine hwk ?_
        (apply CH.read; (· rfl); (· apply PS.loadG (vs := hc ka); (· rfl); (· rfl); (· exact CellsAt.all (by first | exact pickA | exact updA)); (· rfl)); (· exact selA))
        refine hwk ?_
        refine CH.tail rfl rfl fun K hK => ?_
        (refine CX.storeB (vs := hc ka) ?_ ?_ ?_ ?_; (· rfl); (· rfl); (· exact one_all rfl))
        (refine CX.nil ?_; refine CQ.thenK ?_; apply hK; clear hK K)
        refine hwk ?_
        refine wk ?_
        (apply CQ.end3; (· rfl); (· exact .tmp rfl); (· exact .cells inferInstance rfl (CellsAt.all (by first | exact pickA | exact updA)) rfl); (· exact .tmp rfl))
        · exact ⟨by rw [e] <;> rfl, rfl⟩
        · exact selA
      · refine wk ?_
        refine CC.draw [(0, 0), (1, 1), (2, 0), (3, 3), (4, 0)] mixed rfl (by kernel_rfl) (by kernel_rfl) [bk ra 68 (hc ka)] ?_
        refine hwk ?_
        (apply CH.read; (· rfl); (· apply PS.loadG (vs := hc ka); (· rfl); (· rfl); (· exact CellsAt.all (by first | exact pickA | exact updA)); (· rfl)); (· exact selA))
        refine hwk ?_
        refine CH.tail rfl rfl fun K hK => ?_
        (refine CX.storeB (vs := hc ka) ?_ ?_ ?_ ?_; (· rfl); (· rfl); (· exact one_all rfl))
        (refine CX.nil ?_; refine CQ.thenK ?_; apply hK; clear hK K)
        refine hwk ?_
        refine wk ?_
        (apply CQ.end3; (· rfl); (· exact .tmp rfl); (· exact .cells inferInstance rfl (CellsAt.all (by first | exact pickA | exact updA)) rfl); (· exact .tmp rfl))
        · exact ⟨by rw [e] <;> rfl, rfl⟩
        · exact selA
  · by_cases h2 : eb = 0
    · have e : N = (nb, kb, 0) := by rw [eN, if_neg (by simp [h2]), if_pos (.inl h1)]
      refine wk ?_
      refine CC.draw [(0, 0), (1, 1), (2, 0), (3, 3), (4, 0)] mixed rfl (by kernel_rfl) (by kernel_rfl) [bk rb 68 (hc kb)] ?_
      refine hwk ?_
      (apply CH.read; (· rfl); (· apply PS.loadG (vs := hc kb); (· rfl); (· rfl); (· exact CellsAt.all (by first | exact pickA | exact updA)); (· rfl)); (· exact selA))
      refine hwk ?_
      refine CH.tail rfl rfl fun K hK => ?_
      (refine CX.storeB (vs := hc kb) ?_ ?_ ?_ ?_; (· rfl); (· rfl); (· exact one_all rfl))
      (refine CX.nil ?_; refine CQ.thenK ?_; apply hK; clear hK K)
      refine hwk ?_
      refine wk ?_
      (apply CQ.end3; (· rfl); (· exact .tmp rfl); (· exact .cells inferInstance rfl (CellsAt.all (by first | exact pickA | exact updA)) rfl); (· exact .tmp rfl))
      · exact ⟨by rw [e] <;> rfl, rfl⟩
      · exact selA
    · have e : N = (0, HdM.z, 7) := by rw [eN, if_pos ⟨h1, h2⟩]
      refine wk ?_
      (apply CX.ps; (· apply PS.build (vs := []) (out := hc HdM.z); (· rfl); (· rfl); (· rfl)))
      refine wk ?_
      (refine CX.storeB (vs := hc HdM.z) ?_ ?_ ?_ ?_; (· rfl); (· rfl); (· exact one_all rfl))
      refine wk ?_
      (apply CQ.end3; (· rfl); (· exact .tmp rfl); (· exact .cells inferInstance rfl (CellsAt.all (by first | exact pickA | exact updA)) rfl); (· exact .tmp rfl))
      · exact ⟨by rw [e] <;> rfl, rfl⟩
      · exact selA
end Go.Proofs.Ytlckhaodecdbbaa
