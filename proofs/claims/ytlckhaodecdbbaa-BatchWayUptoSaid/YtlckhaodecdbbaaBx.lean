/- Are changes, or rows, the same (ref 00), in the program. Printed by bx.py (wip). -/
import Derived.Test.YtlckhaodecdbbaaBg
set_option linter.unusedVariables false
set_option linter.unusedSimpArgs false
namespace Go.Proofs.Ytlckhaodecdbbaa
open Go.Cx
attribute [local irreducible] Go.Cx.CX Go.Cx.CC Go.Cx.CQ Go.Cx.PS Go.Cx.Ctr Go.Cx.CH
set_option maxRecDepth 10000
theorem eqmC_c (l k : List ChV) (hl : l.length ≤ 9223372036854775806) (a b : Option Addr) (ca cb' : Nat) (hkl : k.length ≤ 9223372036854775806) : Ctr Try.prog 64 [.slice a l.length ca, .slice b k.length cb'] [] (fun x => chAt a l x ∧ chAt b k x) (fun v M => v = .bool (decide (l.map ChV.m = k.map ChV.m)) ∧ M = []) := by
  refine Ctr.intro Try.func64 rfl Try.ntmps64 rfl fun x w hp => ?_
  by_cases hn : l.length = k.length
  · repeat (first | refine CX.psA ?_ | refine CX.nil ?_ | refine CQ.thenN ?_ | refine CQ.thenR ?_ | refine CQ.thenX ?_ | refine CQ.blockN ?_ | refine CQ.blockR ?_ | refine CQ.blockX ?_ | refine CQ.blockYA ?_ | refine CC.seq ?_ | refine CC.block ?_ | refine CC.region ?_ | refine CC.skip ?_ | refine CC.ret ?_ | refine CC.exit ?_ | refine CC.condTA ?_ | refine CC.condFA ?_ | refine CC.condDTA ?_ | refine CC.condDFA ?_ | refine CX.storeA ?_ | refine CX.skipA ?_)
    refine CC.loop (X := Nat) (fun i => [(5, .int .i64 (i : Int)), (0, .slice a l.length ca), (1, .slice b k.length cb')]) (fun i => [exact x]) (fun i => i ≤ l.length ∧ ∀ j (h : j < l.length) (h' : j < k.length), j < i → (l[j]).m = (k[j]).m) (fun i => l.length - i) 0 ⟨Nat.zero_le _, fun j h h' h0 => by omega⟩ ⟨rfl, rfl, rfl, trivial⟩ (by repeat (first | exact Sel.nil _ | (apply Sel.cons; (· repeat (first | exact .head _ | apply Pick.tail | apply Upd.tail))))) ?_
    rintro i ⟨hi, hpre⟩
    by_cases h1 : i < l.length
    · have h2 : i < k.length := by omega
      obtain ⟨g, off, rfl⟩ := chAt_some hp.1 (by omega)
      obtain ⟨g', off', rfl⟩ := chAt_some hp.2 (by omega)
      have hr := hp.1.2 l[i] (List.getElem_mem h1)
      have hr' := hp.2.2 k[i] (List.getElem_mem h2)
      have eat : l.map ChV.m = k.map ChV.m → ∀ j (h : j < l.length) (h' : j < k.length), (l[j]).m = (k[j]).m := fun e j h h' => by
        have := congrArg (fun z => z[j]?) e
        simpa [h, h'] using this
      by_cases hk : (l[i]).key = (k[i]).key
      rotate_left
      · have hne : (l[i]).m ≠ (k[i]).m := fun e => hk (congrArg ChM.key e)
        repeat (first | refine CX.psA ?_ | refine CX.nil ?_ | refine CQ.thenN ?_ | refine CQ.thenR ?_ | refine CQ.thenX ?_ | refine CQ.blockN ?_ | refine CQ.blockR ?_ | refine CQ.blockX ?_ | refine CQ.blockYA ?_ | refine CC.seq ?_ | refine CC.block ?_ | refine CC.region ?_ | refine CC.skip ?_ | refine CC.ret ?_ | refine CC.exit ?_ | refine CC.condTA ?_ | refine CC.condFA ?_ | refine CC.condDTA ?_ | refine CC.condDFA ?_ | refine CX.storeA ?_ | refine CX.skipA ?_)
        refine CC.draw [(0, 0), (1, 0), (2, 0), (3, 0), (4, 1), (5, 0), (6, 0), (7, 0), (8, 0), (9, 1), (10, 0), (11, 0), (12, 0), (13, 0), (14, 0), (15, 0), (16, 1), (17, 0), (18, 0), (19, 0), (20, 0), (21, 1), (22, 0), (23, 0), (24, 0), (25, 0), (26, 0), (27, 0), (28, 0), (29, 1), (30, 0), (31, 0), (32, 0), (33, 0), (34, 1), (35, 2), (36, 0), (37, 0)] mixed rfl (by kernel_rfl) (by kernel_rfl) [exact x] ?_
        repeat (first | refine CH.pureA ?_ | refine CH.readA ?_ | refine CH.skA ?_ | refine CH.skCA ?_ | refine CH.nil ?_)
        refine CH.pure rfl (PS.indexAddr (j := i) rfl rfl rfl rfl (by omega)) ?_
        repeat (first | refine CH.pureA ?_ | refine CH.readA ?_ | refine CH.skA ?_ | refine CH.skCA ?_ | refine CH.nil ?_)
        (apply CH.read; (· rfl); (· apply PS.load (v := sv (l[i]).key); (· rfl); (· rfl); (· exact hp.1.cell (by repeat (first | exact .head _ | apply Pick.tail | apply Upd.tail)) h1 0 rfl)); (· repeat (first | exact Sel.nil _ | (apply Sel.cons; (· repeat (first | exact .head _ | apply Pick.tail | apply Upd.tail))))))
        repeat (first | refine CH.pureA ?_ | refine CH.readA ?_ | refine CH.skA ?_ | refine CH.skCA ?_ | refine CH.nil ?_)
        refine CH.pure rfl (PS.indexAddr (j := i) rfl rfl rfl rfl (by omega)) ?_
        repeat (first | refine CH.pureA ?_ | refine CH.readA ?_ | refine CH.skA ?_ | refine CH.skCA ?_ | refine CH.nil ?_)
        (apply CH.read; (· rfl); (· apply PS.load (v := sv (k[i]).key); (· rfl); (· rfl); (· exact hp.2.cell (by repeat (first | exact .head _ | apply Pick.tail | apply Upd.tail)) h2 0 rfl)); (· repeat (first | exact Sel.nil _ | (apply Sel.cons; (· repeat (first | exact .head _ | apply Pick.tail | apply Upd.tail))))))
        refine CH.pure rfl ((PS.neqStr (a := (l[i]).key) (b := (k[i]).key) rfl rfl rfl).toT hk) ?_
        repeat (first | refine CH.pureA ?_ | refine CH.readA ?_ | refine CH.skA ?_ | refine CH.skCA ?_ | refine CH.nil ?_)
        repeat (first | refine CX.psA ?_ | refine CX.nil ?_ | refine CQ.thenN ?_ | refine CQ.thenR ?_ | refine CQ.thenX ?_ | refine CQ.blockN ?_ | refine CQ.blockR ?_ | refine CQ.blockX ?_ | refine CQ.blockYA ?_ | refine CC.seq ?_ | refine CC.block ?_ | refine CC.region ?_ | refine CC.skip ?_ | refine CC.ret ?_ | refine CC.exit ?_ | refine CC.condTA ?_ | refine CC.condFA ?_ | refine CC.condDTA ?_ | refine CC.condDFA ?_ | refine CX.storeA ?_ | refine CX.skipA ?_)
        ((apply CQ.end1; (· rfl); (· exact .tmp rfl)); (· exact ⟨by rw [decide_eq_false fun e => hne (eat e i h1 h2)], rfl⟩); (· repeat (first | exact Sel.nil _ | (apply Sel.cons; (· repeat (first | exact .head _ | apply Pick.tail | apply Upd.tail))))))
      by_cases hg : (l[i]).gone = (k[i]).gone
      rotate_left
      · have hne : (l[i]).m ≠ (k[i]).m := fun e => hg (congrArg ChM.gone e)
        repeat (first | refine CX.psA ?_ | refine CX.nil ?_ | refine CQ.thenN ?_ | refine CQ.thenR ?_ | refine CQ.thenX ?_ | refine CQ.blockN ?_ | refine CQ.blockR ?_ | refine CQ.blockX ?_ | refine CQ.blockYA ?_ | refine CC.seq ?_ | refine CC.block ?_ | refine CC.region ?_ | refine CC.skip ?_ | refine CC.ret ?_ | refine CC.exit ?_ | refine CC.condTA ?_ | refine CC.condFA ?_ | refine CC.condDTA ?_ | refine CC.condDFA ?_ | refine CX.storeA ?_ | refine CX.skipA ?_)
        refine CC.draw [(0, 0), (1, 0), (2, 0), (3, 0), (4, 1), (5, 0), (6, 0), (7, 0), (8, 0), (9, 1), (10, 0), (11, 0), (12, 0), (13, 0), (14, 0), (15, 0), (16, 1), (17, 0), (18, 0), (19, 0), (20, 0), (21, 1), (22, 0), (23, 0), (24, 0), (25, 0), (26, 0), (27, 0), (28, 0), (29, 1), (30, 0), (31, 0), (32, 0), (33, 0), (34, 1), (35, 2), (36, 0), (37, 0)] mixed rfl (by kernel_rfl) (by kernel_rfl) [exact x] ?_
        repeat (first | refine CH.pureA ?_ | refine CH.readA ?_ | refine CH.skA ?_ | refine CH.skCA ?_ | refine CH.nil ?_)
        refine CH.pure rfl (PS.indexAddr (j := i) rfl rfl rfl rfl (by omega)) ?_
        repeat (first | refine CH.pureA ?_ | refine CH.readA ?_ | refine CH.skA ?_ | refine CH.skCA ?_ | refine CH.nil ?_)
        (apply CH.read; (· rfl); (· apply PS.load (v := sv (l[i]).key); (· rfl); (· rfl); (· exact hp.1.cell (by repeat (first | exact .head _ | apply Pick.tail | apply Upd.tail)) h1 0 rfl)); (· repeat (first | exact Sel.nil _ | (apply Sel.cons; (· repeat (first | exact .head _ | apply Pick.tail | apply Upd.tail))))))
        repeat (first | refine CH.pureA ?_ | refine CH.readA ?_ | refine CH.skA ?_ | refine CH.skCA ?_ | refine CH.nil ?_)
        refine CH.pure rfl (PS.indexAddr (j := i) rfl rfl rfl rfl (by omega)) ?_
        repeat (first | refine CH.pureA ?_ | refine CH.readA ?_ | refine CH.skA ?_ | refine CH.skCA ?_ | refine CH.nil ?_)
        (apply CH.read; (· rfl); (· apply PS.load (v := sv (k[i]).key); (· rfl); (· rfl); (· exact hp.2.cell (by repeat (first | exact .head _ | apply Pick.tail | apply Upd.tail)) h2 0 rfl)); (· repeat (first | exact Sel.nil _ | (apply Sel.cons; (· repeat (first | exact .head _ | apply Pick.tail | apply Upd.tail))))))
        refine CH.pure rfl ((PS.neqStr (a := (l[i]).key) (b := (k[i]).key) rfl rfl rfl).toF (fun h => h hk)) ?_
        repeat (first | refine CH.pureA ?_ | refine CH.readA ?_ | refine CH.skA ?_ | refine CH.skCA ?_ | refine CH.nil ?_)
        refine CH.pure rfl (PS.indexAddr (j := i) rfl rfl rfl rfl (by omega)) ?_
        repeat (first | refine CH.pureA ?_ | refine CH.readA ?_ | refine CH.skA ?_ | refine CH.skCA ?_ | refine CH.nil ?_)
        (apply CH.read; (· rfl); (· apply PS.load (v := .bool (l[i]).gone); (· rfl); (· rfl); (· exact hp.1.cell (by repeat (first | exact .head _ | apply Pick.tail | apply Upd.tail)) h1 2 rfl)); (· repeat (first | exact Sel.nil _ | (apply Sel.cons; (· repeat (first | exact .head _ | apply Pick.tail | apply Upd.tail))))))
        repeat (first | refine CH.pureA ?_ | refine CH.readA ?_ | refine CH.skA ?_ | refine CH.skCA ?_ | refine CH.nil ?_)
        refine CH.pure rfl (PS.indexAddr (j := i) rfl rfl rfl rfl (by omega)) ?_
        repeat (first | refine CH.pureA ?_ | refine CH.readA ?_ | refine CH.skA ?_ | refine CH.skCA ?_ | refine CH.nil ?_)
        (apply CH.read; (· rfl); (· apply PS.load (v := .bool (k[i]).gone); (· rfl); (· rfl); (· exact hp.2.cell (by repeat (first | exact .head _ | apply Pick.tail | apply Upd.tail)) h2 2 rfl)); (· repeat (first | exact Sel.nil _ | (apply Sel.cons; (· repeat (first | exact .head _ | apply Pick.tail | apply Upd.tail))))))
        refine CH.pure rfl (PS.neqBool true (by simpa using hg) Try.underlying4 rfl rfl rfl) ?_
        repeat (first | refine CH.pureA ?_ | refine CH.readA ?_ | refine CH.skA ?_ | refine CH.skCA ?_ | refine CH.nil ?_)
        repeat (first | refine CX.psA ?_ | refine CX.nil ?_ | refine CQ.thenN ?_ | refine CQ.thenR ?_ | refine CQ.thenX ?_ | refine CQ.blockN ?_ | refine CQ.blockR ?_ | refine CQ.blockX ?_ | refine CQ.blockYA ?_ | refine CC.seq ?_ | refine CC.block ?_ | refine CC.region ?_ | refine CC.skip ?_ | refine CC.ret ?_ | refine CC.exit ?_ | refine CC.condTA ?_ | refine CC.condFA ?_ | refine CC.condDTA ?_ | refine CC.condDFA ?_ | refine CX.storeA ?_ | refine CX.skipA ?_)
        ((apply CQ.end1; (· rfl); (· exact .tmp rfl)); (· exact ⟨by rw [decide_eq_false fun e => hne (eat e i h1 h2)], rfl⟩); (· repeat (first | exact Sel.nil _ | (apply Sel.cons; (· repeat (first | exact .head _ | apply Pick.tail | apply Upd.tail))))))
      by_cases hb : (l[i]).s.b = (k[i]).s.b
      rotate_left
      · have hne : (l[i]).m ≠ (k[i]).m := fun e => hb (congrArg ChM.val e)
        repeat (first | refine CX.psA ?_ | refine CX.nil ?_ | refine CQ.thenN ?_ | refine CQ.thenR ?_ | refine CQ.thenX ?_ | refine CQ.blockN ?_ | refine CQ.blockR ?_ | refine CQ.blockX ?_ | refine CQ.blockYA ?_ | refine CC.seq ?_ | refine CC.block ?_ | refine CC.region ?_ | refine CC.skip ?_ | refine CC.ret ?_ | refine CC.exit ?_ | refine CC.condTA ?_ | refine CC.condFA ?_ | refine CC.condDTA ?_ | refine CC.condDFA ?_ | refine CX.storeA ?_ | refine CX.skipA ?_)
        refine CC.draw [(0, 0), (1, 0), (2, 0), (3, 0), (4, 1), (5, 0), (6, 0), (7, 0), (8, 0), (9, 1), (10, 0), (11, 0), (12, 0), (13, 0), (14, 0), (15, 0), (16, 1), (17, 0), (18, 0), (19, 0), (20, 0), (21, 1), (22, 0), (23, 0), (24, 0), (25, 0), (26, 0), (27, 0), (28, 0), (29, 1), (30, 0), (31, 0), (32, 0), (33, 0), (34, 1), (35, 2), (36, 0), (37, 0)] mixed rfl (by kernel_rfl) (by kernel_rfl) [exact x] ?_
        repeat (first | refine CH.pureA ?_ | refine CH.readA ?_ | refine CH.skA ?_ | refine CH.skCA ?_ | refine CH.nil ?_)
        refine CH.pure rfl (PS.indexAddr (j := i) rfl rfl rfl rfl (by omega)) ?_
        repeat (first | refine CH.pureA ?_ | refine CH.readA ?_ | refine CH.skA ?_ | refine CH.skCA ?_ | refine CH.nil ?_)
        (apply CH.read; (· rfl); (· apply PS.load (v := sv (l[i]).key); (· rfl); (· rfl); (· exact hp.1.cell (by repeat (first | exact .head _ | apply Pick.tail | apply Upd.tail)) h1 0 rfl)); (· repeat (first | exact Sel.nil _ | (apply Sel.cons; (· repeat (first | exact .head _ | apply Pick.tail | apply Upd.tail))))))
        repeat (first | refine CH.pureA ?_ | refine CH.readA ?_ | refine CH.skA ?_ | refine CH.skCA ?_ | refine CH.nil ?_)
        refine CH.pure rfl (PS.indexAddr (j := i) rfl rfl rfl rfl (by omega)) ?_
        repeat (first | refine CH.pureA ?_ | refine CH.readA ?_ | refine CH.skA ?_ | refine CH.skCA ?_ | refine CH.nil ?_)
        (apply CH.read; (· rfl); (· apply PS.load (v := sv (k[i]).key); (· rfl); (· rfl); (· exact hp.2.cell (by repeat (first | exact .head _ | apply Pick.tail | apply Upd.tail)) h2 0 rfl)); (· repeat (first | exact Sel.nil _ | (apply Sel.cons; (· repeat (first | exact .head _ | apply Pick.tail | apply Upd.tail))))))
        refine CH.pure rfl ((PS.neqStr (a := (l[i]).key) (b := (k[i]).key) rfl rfl rfl).toF (fun h => h hk)) ?_
        repeat (first | refine CH.pureA ?_ | refine CH.readA ?_ | refine CH.skA ?_ | refine CH.skCA ?_ | refine CH.nil ?_)
        refine CH.pure rfl (PS.indexAddr (j := i) rfl rfl rfl rfl (by omega)) ?_
        repeat (first | refine CH.pureA ?_ | refine CH.readA ?_ | refine CH.skA ?_ | refine CH.skCA ?_ | refine CH.nil ?_)
        (apply CH.read; (· rfl); (· apply PS.load (v := .bool (l[i]).gone); (· rfl); (· rfl); (· exact hp.1.cell (by repeat (first | exact .head _ | apply Pick.tail | apply Upd.tail)) h1 2 rfl)); (· repeat (first | exact Sel.nil _ | (apply Sel.cons; (· repeat (first | exact .head _ | apply Pick.tail | apply Upd.tail))))))
        repeat (first | refine CH.pureA ?_ | refine CH.readA ?_ | refine CH.skA ?_ | refine CH.skCA ?_ | refine CH.nil ?_)
        refine CH.pure rfl (PS.indexAddr (j := i) rfl rfl rfl rfl (by omega)) ?_
        repeat (first | refine CH.pureA ?_ | refine CH.readA ?_ | refine CH.skA ?_ | refine CH.skCA ?_ | refine CH.nil ?_)
        (apply CH.read; (· rfl); (· apply PS.load (v := .bool (k[i]).gone); (· rfl); (· rfl); (· exact hp.2.cell (by repeat (first | exact .head _ | apply Pick.tail | apply Upd.tail)) h2 2 rfl)); (· repeat (first | exact Sel.nil _ | (apply Sel.cons; (· repeat (first | exact .head _ | apply Pick.tail | apply Upd.tail))))))
        refine CH.pure rfl (PS.neqBool false (by simp [hg]) Try.underlying4 rfl rfl rfl) ?_
        repeat (first | refine CH.pureA ?_ | refine CH.readA ?_ | refine CH.skA ?_ | refine CH.skCA ?_ | refine CH.nil ?_)
        refine CH.pure rfl (PS.indexAddr (j := i) rfl rfl rfl rfl (by omega)) ?_
        repeat (first | refine CH.pureA ?_ | refine CH.readA ?_ | refine CH.skA ?_ | refine CH.skCA ?_ | refine CH.nil ?_)
        (apply CH.read; (· rfl); (· apply PS.load (v := .slice (l[i]).s.a (l[i]).s.b.length (l[i]).s.c); (· rfl); (· rfl); (· exact hp.1.cell (by repeat (first | exact .head _ | apply Pick.tail | apply Upd.tail)) h1 1 rfl)); (· repeat (first | exact Sel.nil _ | (apply Sel.cons; (· repeat (first | exact .head _ | apply Pick.tail | apply Upd.tail))))))
        repeat (first | refine CH.pureA ?_ | refine CH.readA ?_ | refine CH.skA ?_ | refine CH.skCA ?_ | refine CH.nil ?_)
        refine CH.pure rfl (PS.indexAddr (j := i) rfl rfl rfl rfl (by omega)) ?_
        repeat (first | refine CH.pureA ?_ | refine CH.readA ?_ | refine CH.skA ?_ | refine CH.skCA ?_ | refine CH.nil ?_)
        (apply CH.read; (· rfl); (· apply PS.load (v := .slice (k[i]).s.a (k[i]).s.b.length (k[i]).s.c); (· rfl); (· rfl); (· exact hp.2.cell (by repeat (first | exact .head _ | apply Pick.tail | apply Upd.tail)) h2 1 rfl)); (· repeat (first | exact Sel.nil _ | (apply Sel.cons; (· repeat (first | exact .head _ | apply Pick.tail | apply Upd.tail))))))
        refine CH.chain rfl fun K hK => ?_
        refine CX.callA (same_c (l[i]).s.b (k[i]).s.b (l[i]).s.a (k[i]).s.a (l[i]).s.c (k[i]).s.c) ?_ (hpre := by exact fun y hy => ⟨rdx_ex (show Pick (exact x) _ _ from by repeat (first | exact .head _ | apply Pick.tail | apply Upd.tail)) hr.r y hy, rdx_ex (show Pick (exact x) _ _ from by repeat (first | exact .head _ | apply Pick.tail | apply Upd.tail)) hr'.r y hy⟩)
        rw [decide_eq_false hb]
        rintro _ _ ⟨rfl, rfl⟩
        (refine CX.nil ?_; refine CQ.thenK ?_; apply hK; (· repeat (first | exact Sel.nil _ | (apply Sel.cons; (· repeat (first | exact .head _ | apply Pick.tail | apply Upd.tail))))); clear hK K)
        repeat (first | refine CH.pureA ?_ | refine CH.readA ?_ | refine CH.skA ?_ | refine CH.skCA ?_ | refine CH.nil ?_)
        repeat (first | refine CX.psA ?_ | refine CX.nil ?_ | refine CQ.thenN ?_ | refine CQ.thenR ?_ | refine CQ.thenX ?_ | refine CQ.blockN ?_ | refine CQ.blockR ?_ | refine CQ.blockX ?_ | refine CQ.blockYA ?_ | refine CC.seq ?_ | refine CC.block ?_ | refine CC.region ?_ | refine CC.skip ?_ | refine CC.ret ?_ | refine CC.exit ?_ | refine CC.condTA ?_ | refine CC.condFA ?_ | refine CC.condDTA ?_ | refine CC.condDFA ?_ | refine CX.storeA ?_ | refine CX.skipA ?_)
        ((apply CQ.end1; (· rfl); (· exact .tmp rfl)); (· exact ⟨by rw [decide_eq_false fun e => hne (eat e i h1 h2)], rfl⟩); (· repeat (first | exact Sel.nil _ | (apply Sel.cons; (· repeat (first | exact .head _ | apply Pick.tail | apply Upd.tail))))))
      · have heq : (l[i]).m = (k[i]).m := by unfold ChV.m; rw [hk, hb, hg]
        repeat (first | refine CX.psA ?_ | refine CX.nil ?_ | refine CQ.thenN ?_ | refine CQ.thenR ?_ | refine CQ.thenX ?_ | refine CQ.blockN ?_ | refine CQ.blockR ?_ | refine CQ.blockX ?_ | refine CQ.blockYA ?_ | refine CC.seq ?_ | refine CC.block ?_ | refine CC.region ?_ | refine CC.skip ?_ | refine CC.ret ?_ | refine CC.exit ?_ | refine CC.condTA ?_ | refine CC.condFA ?_ | refine CC.condDTA ?_ | refine CC.condDFA ?_ | refine CX.storeA ?_ | refine CX.skipA ?_)
        refine CC.draw [(0, 0), (1, 0), (2, 0), (3, 0), (4, 1), (5, 0), (6, 0), (7, 0), (8, 0), (9, 1), (10, 0), (11, 0), (12, 0), (13, 0), (14, 0), (15, 0), (16, 1), (17, 0), (18, 0), (19, 0), (20, 0), (21, 1), (22, 0), (23, 0), (24, 0), (25, 0), (26, 0), (27, 0), (28, 0), (29, 1), (30, 0), (31, 0), (32, 0), (33, 0), (34, 1), (35, 2), (36, 0), (37, 0)] mixed rfl (by kernel_rfl) (by kernel_rfl) [exact x] ?_
        repeat (first | refine CH.pureA ?_ | refine CH.readA ?_ | refine CH.skA ?_ | refine CH.skCA ?_ | refine CH.nil ?_)
        refine CH.pure rfl (PS.indexAddr (j := i) rfl rfl rfl rfl (by omega)) ?_
        repeat (first | refine CH.pureA ?_ | refine CH.readA ?_ | refine CH.skA ?_ | refine CH.skCA ?_ | refine CH.nil ?_)
        (apply CH.read; (· rfl); (· apply PS.load (v := sv (l[i]).key); (· rfl); (· rfl); (· exact hp.1.cell (by repeat (first | exact .head _ | apply Pick.tail | apply Upd.tail)) h1 0 rfl)); (· repeat (first | exact Sel.nil _ | (apply Sel.cons; (· repeat (first | exact .head _ | apply Pick.tail | apply Upd.tail))))))
        repeat (first | refine CH.pureA ?_ | refine CH.readA ?_ | refine CH.skA ?_ | refine CH.skCA ?_ | refine CH.nil ?_)
        refine CH.pure rfl (PS.indexAddr (j := i) rfl rfl rfl rfl (by omega)) ?_
        repeat (first | refine CH.pureA ?_ | refine CH.readA ?_ | refine CH.skA ?_ | refine CH.skCA ?_ | refine CH.nil ?_)
        (apply CH.read; (· rfl); (· apply PS.load (v := sv (k[i]).key); (· rfl); (· rfl); (· exact hp.2.cell (by repeat (first | exact .head _ | apply Pick.tail | apply Upd.tail)) h2 0 rfl)); (· repeat (first | exact Sel.nil _ | (apply Sel.cons; (· repeat (first | exact .head _ | apply Pick.tail | apply Upd.tail))))))
        refine CH.pure rfl ((PS.neqStr (a := (l[i]).key) (b := (k[i]).key) rfl rfl rfl).toF (fun h => h hk)) ?_
        repeat (first | refine CH.pureA ?_ | refine CH.readA ?_ | refine CH.skA ?_ | refine CH.skCA ?_ | refine CH.nil ?_)
        refine CH.pure rfl (PS.indexAddr (j := i) rfl rfl rfl rfl (by omega)) ?_
        repeat (first | refine CH.pureA ?_ | refine CH.readA ?_ | refine CH.skA ?_ | refine CH.skCA ?_ | refine CH.nil ?_)
        (apply CH.read; (· rfl); (· apply PS.load (v := .bool (l[i]).gone); (· rfl); (· rfl); (· exact hp.1.cell (by repeat (first | exact .head _ | apply Pick.tail | apply Upd.tail)) h1 2 rfl)); (· repeat (first | exact Sel.nil _ | (apply Sel.cons; (· repeat (first | exact .head _ | apply Pick.tail | apply Upd.tail))))))
        repeat (first | refine CH.pureA ?_ | refine CH.readA ?_ | refine CH.skA ?_ | refine CH.skCA ?_ | refine CH.nil ?_)
        refine CH.pure rfl (PS.indexAddr (j := i) rfl rfl rfl rfl (by omega)) ?_
        repeat (first | refine CH.pureA ?_ | refine CH.readA ?_ | refine CH.skA ?_ | refine CH.skCA ?_ | refine CH.nil ?_)
        (apply CH.read; (· rfl); (· apply PS.load (v := .bool (k[i]).gone); (· rfl); (· rfl); (· exact hp.2.cell (by repeat (first | exact .head _ | apply Pick.tail | apply Upd.tail)) h2 2 rfl)); (· repeat (first | exact Sel.nil _ | (apply Sel.cons; (· repeat (first | exact .head _ | apply Pick.tail | apply Upd.tail))))))
        refine CH.pure rfl (PS.neqBool false (by simp [hg]) Try.underlying4 rfl rfl rfl) ?_
        repeat (first | refine CH.pureA ?_ | refine CH.readA ?_ | refine CH.skA ?_ | refine CH.skCA ?_ | refine CH.nil ?_)
        refine CH.pure rfl (PS.indexAddr (j := i) rfl rfl rfl rfl (by omega)) ?_
        repeat (first | refine CH.pureA ?_ | refine CH.readA ?_ | refine CH.skA ?_ | refine CH.skCA ?_ | refine CH.nil ?_)
        (apply CH.read; (· rfl); (· apply PS.load (v := .slice (l[i]).s.a (l[i]).s.b.length (l[i]).s.c); (· rfl); (· rfl); (· exact hp.1.cell (by repeat (first | exact .head _ | apply Pick.tail | apply Upd.tail)) h1 1 rfl)); (· repeat (first | exact Sel.nil _ | (apply Sel.cons; (· repeat (first | exact .head _ | apply Pick.tail | apply Upd.tail))))))
        repeat (first | refine CH.pureA ?_ | refine CH.readA ?_ | refine CH.skA ?_ | refine CH.skCA ?_ | refine CH.nil ?_)
        refine CH.pure rfl (PS.indexAddr (j := i) rfl rfl rfl rfl (by omega)) ?_
        repeat (first | refine CH.pureA ?_ | refine CH.readA ?_ | refine CH.skA ?_ | refine CH.skCA ?_ | refine CH.nil ?_)
        (apply CH.read; (· rfl); (· apply PS.load (v := .slice (k[i]).s.a (k[i]).s.b.length (k[i]).s.c); (· rfl); (· rfl); (· exact hp.2.cell (by repeat (first | exact .head _ | apply Pick.tail | apply Upd.tail)) h2 1 rfl)); (· repeat (first | exact Sel.nil _ | (apply Sel.cons; (· repeat (first | exact .head _ | apply Pick.tail | apply Upd.tail))))))
        refine CH.chain rfl fun K hK => ?_
        refine CX.callA (same_c (l[i]).s.b (k[i]).s.b (l[i]).s.a (k[i]).s.a (l[i]).s.c (k[i]).s.c) ?_ (hpre := by exact fun y hy => ⟨rdx_ex (show Pick (exact x) _ _ from by repeat (first | exact .head _ | apply Pick.tail | apply Upd.tail)) hr.r y hy, rdx_ex (show Pick (exact x) _ _ from by repeat (first | exact .head _ | apply Pick.tail | apply Upd.tail)) hr'.r y hy⟩)
        rw [decide_eq_true hb]
        rintro _ _ ⟨rfl, rfl⟩
        (refine CX.nil ?_; refine CQ.thenK ?_; apply hK; (· repeat (first | exact Sel.nil _ | (apply Sel.cons; (· repeat (first | exact .head _ | apply Pick.tail | apply Upd.tail))))); clear hK K)
        repeat (first | refine CH.pureA ?_ | refine CH.readA ?_ | refine CH.skA ?_ | refine CH.skCA ?_ | refine CH.nil ?_)
        repeat (first | refine CX.psA ?_ | refine CX.nil ?_ | refine CQ.thenN ?_ | refine CQ.thenR ?_ | refine CQ.thenX ?_ | refine CQ.blockN ?_ | refine CQ.blockR ?_ | refine CQ.blockX ?_ | refine CQ.blockYA ?_ | refine CC.seq ?_ | refine CC.block ?_ | refine CC.region ?_ | refine CC.skip ?_ | refine CC.ret ?_ | refine CC.exit ?_ | refine CC.condTA ?_ | refine CC.condFA ?_ | refine CC.condDTA ?_ | refine CC.condDFA ?_ | refine CX.storeA ?_ | refine CX.skipA ?_)
        exact CQ.round (i + 1) ⟨by omega, fun j h h' h0 => by
          by_cases e : j < i
          · exact hpre j h h' e
          · obtain rfl : j = i := by omega
            exact heq⟩ (by omega) ⟨eqI (by omega), rfl, rfl, trivial⟩ (by repeat (first | exact Sel.nil _ | (apply Sel.cons; (· repeat (first | exact .head _ | apply Pick.tail | apply Upd.tail)))))
    · obtain rfl : i = l.length := by omega
      have e : l.map ChV.m = k.map ChV.m := List.ext_getElem (by simpa using hn) fun j h h' => by simpa using hpre j (by simpa using h) (by simpa using h') (by simpa using h)
      repeat (first | refine CX.psA ?_ | refine CX.nil ?_ | refine CQ.thenN ?_ | refine CQ.thenR ?_ | refine CQ.thenX ?_ | refine CQ.blockN ?_ | refine CQ.blockR ?_ | refine CQ.blockX ?_ | refine CQ.blockYA ?_ | refine CC.seq ?_ | refine CC.block ?_ | refine CC.region ?_ | refine CC.skip ?_ | refine CC.ret ?_ | refine CC.exit ?_ | refine CC.condTA ?_ | refine CC.condFA ?_ | refine CC.condDTA ?_ | refine CC.condDFA ?_ | refine CX.storeA ?_ | refine CX.skipA ?_)
      ((apply CQ.end1; (· rfl); (· exact .tmp rfl)); (· exact ⟨by rw [decide_eq_true e], rfl⟩); (· repeat (first | exact Sel.nil _ | (apply Sel.cons; (· repeat (first | exact .head _ | apply Pick.tail | apply Upd.tail))))))
  · have e : l.map ChV.m ≠ k.map ChV.m := fun h => hn (by simpa using congrArg List.length h)
    repeat (first | refine CX.psA ?_ | refine CX.nil ?_ | refine CQ.thenN ?_ | refine CQ.thenR ?_ | refine CQ.thenX ?_ | refine CQ.blockN ?_ | refine CQ.blockR ?_ | refine CQ.blockX ?_ | refine CQ.blockYA ?_ | refine CC.seq ?_ | refine CC.block ?_ | refine CC.region ?_ | refine CC.skip ?_ | refine CC.ret ?_ | refine CC.exit ?_ | refine CC.condTA ?_ | refine CC.condFA ?_ | refine CC.condDTA ?_ | refine CC.condDFA ?_ | refine CX.storeA ?_ | refine CX.skipA ?_)
    ((apply CQ.end1; (· rfl); (· exact .tmp rfl)); (· exact ⟨by rw [decide_eq_false e], rfl⟩); (· repeat (first | exact Sel.nil _ | (apply Sel.cons; (· repeat (first | exact .head _ | apply Pick.tail | apply Upd.tail))))))
theorem eqmR_c (l k : List RwV) (hl : l.length ≤ 9223372036854775806) (a b : Option Addr) (ca cb' : Nat) (hkl : k.length ≤ 9223372036854775806) : Ctr Try.prog 71 [.slice a l.length ca, .slice b k.length cb'] [] (fun x => rwAt a l x ∧ rwAt b k x) (fun v M => v = .bool (decide (l.map RwV.m = k.map RwV.m)) ∧ M = []) := by
  refine Ctr.intro Try.func71 rfl Try.ntmps71 rfl fun x w hp => ?_
  by_cases hn : l.length = k.length
  · repeat (first | refine CX.psA ?_ | refine CX.nil ?_ | refine CQ.thenN ?_ | refine CQ.thenR ?_ | refine CQ.thenX ?_ | refine CQ.blockN ?_ | refine CQ.blockR ?_ | refine CQ.blockX ?_ | refine CQ.blockYA ?_ | refine CC.seq ?_ | refine CC.block ?_ | refine CC.region ?_ | refine CC.skip ?_ | refine CC.ret ?_ | refine CC.exit ?_ | refine CC.condTA ?_ | refine CC.condFA ?_ | refine CC.condDTA ?_ | refine CC.condDFA ?_ | refine CX.storeA ?_ | refine CX.skipA ?_)
    refine CC.loop (X := Nat) (fun i => [(5, .int .i64 (i : Int)), (0, .slice a l.length ca), (1, .slice b k.length cb')]) (fun i => [exact x]) (fun i => i ≤ l.length ∧ ∀ j (h : j < l.length) (h' : j < k.length), j < i → (l[j]).m = (k[j]).m) (fun i => l.length - i) 0 ⟨Nat.zero_le _, fun j h h' h0 => by omega⟩ ⟨rfl, rfl, rfl, trivial⟩ (by repeat (first | exact Sel.nil _ | (apply Sel.cons; (· repeat (first | exact .head _ | apply Pick.tail | apply Upd.tail))))) ?_
    rintro i ⟨hi, hpre⟩
    by_cases h1 : i < l.length
    · have h2 : i < k.length := by omega
      obtain ⟨g, off, rfl⟩ := rwAt_some hp.1 (by omega)
      obtain ⟨g', off', rfl⟩ := rwAt_some hp.2 (by omega)
      have hr := hp.1.2 l[i] (List.getElem_mem h1)
      have hr' := hp.2.2 k[i] (List.getElem_mem h2)
      have eat : l.map RwV.m = k.map RwV.m → ∀ j (h : j < l.length) (h' : j < k.length), (l[j]).m = (k[j]).m := fun e j h h' => by
        have := congrArg (fun z => z[j]?) e
        simpa [h, h'] using this
      by_cases hk : (l[i]).key = (k[i]).key
      rotate_left
      · have hne : (l[i]).m ≠ (k[i]).m := fun e => hk (congrArg Prod.fst e)
        repeat (first | refine CX.psA ?_ | refine CX.nil ?_ | refine CQ.thenN ?_ | refine CQ.thenR ?_ | refine CQ.thenX ?_ | refine CQ.blockN ?_ | refine CQ.blockR ?_ | refine CQ.blockX ?_ | refine CQ.blockYA ?_ | refine CC.seq ?_ | refine CC.block ?_ | refine CC.region ?_ | refine CC.skip ?_ | refine CC.ret ?_ | refine CC.exit ?_ | refine CC.condTA ?_ | refine CC.condFA ?_ | refine CC.condDTA ?_ | refine CC.condDFA ?_ | refine CX.storeA ?_ | refine CX.skipA ?_)
        refine CC.draw [(0, 0), (1, 0), (2, 0), (3, 0), (4, 1), (5, 0), (6, 0), (7, 0), (8, 0), (9, 1), (10, 0), (11, 0), (12, 0), (13, 0), (14, 0), (15, 0), (16, 1), (17, 0), (18, 0), (19, 0), (20, 0), (21, 1), (22, 2), (23, 0), (24, 0)] mixed rfl (by kernel_rfl) (by kernel_rfl) [exact x] ?_
        repeat (first | refine CH.pureA ?_ | refine CH.readA ?_ | refine CH.skA ?_ | refine CH.skCA ?_ | refine CH.nil ?_)
        refine CH.pure rfl (PS.indexAddr (j := i) rfl rfl rfl rfl (by omega)) ?_
        repeat (first | refine CH.pureA ?_ | refine CH.readA ?_ | refine CH.skA ?_ | refine CH.skCA ?_ | refine CH.nil ?_)
        (apply CH.read; (· rfl); (· apply PS.load (v := sv (l[i]).key); (· rfl); (· rfl); (· exact hp.1.cell (by repeat (first | exact .head _ | apply Pick.tail | apply Upd.tail)) h1 0 rfl)); (· repeat (first | exact Sel.nil _ | (apply Sel.cons; (· repeat (first | exact .head _ | apply Pick.tail | apply Upd.tail))))))
        repeat (first | refine CH.pureA ?_ | refine CH.readA ?_ | refine CH.skA ?_ | refine CH.skCA ?_ | refine CH.nil ?_)
        refine CH.pure rfl (PS.indexAddr (j := i) rfl rfl rfl rfl (by omega)) ?_
        repeat (first | refine CH.pureA ?_ | refine CH.readA ?_ | refine CH.skA ?_ | refine CH.skCA ?_ | refine CH.nil ?_)
        (apply CH.read; (· rfl); (· apply PS.load (v := sv (k[i]).key); (· rfl); (· rfl); (· exact hp.2.cell (by repeat (first | exact .head _ | apply Pick.tail | apply Upd.tail)) h2 0 rfl)); (· repeat (first | exact Sel.nil _ | (apply Sel.cons; (· repeat (first | exact .head _ | apply Pick.tail | apply Upd.tail))))))
        refine CH.pure rfl ((PS.neqStr (a := (l[i]).key) (b := (k[i]).key) rfl rfl rfl).toT hk) ?_
        repeat (first | refine CH.pureA ?_ | refine CH.readA ?_ | refine CH.skA ?_ | refine CH.skCA ?_ | refine CH.nil ?_)
        repeat (first | refine CX.psA ?_ | refine CX.nil ?_ | refine CQ.thenN ?_ | refine CQ.thenR ?_ | refine CQ.thenX ?_ | refine CQ.blockN ?_ | refine CQ.blockR ?_ | refine CQ.blockX ?_ | refine CQ.blockYA ?_ | refine CC.seq ?_ | refine CC.block ?_ | refine CC.region ?_ | refine CC.skip ?_ | refine CC.ret ?_ | refine CC.exit ?_ | refine CC.condTA ?_ | refine CC.condFA ?_ | refine CC.condDTA ?_ | refine CC.condDFA ?_ | refine CX.storeA ?_ | refine CX.skipA ?_)
        ((apply CQ.end1; (· rfl); (· exact .tmp rfl)); (· exact ⟨by rw [decide_eq_false fun e => hne (eat e i h1 h2)], rfl⟩); (· repeat (first | exact Sel.nil _ | (apply Sel.cons; (· repeat (first | exact .head _ | apply Pick.tail | apply Upd.tail))))))
      by_cases hb : (l[i]).s.b = (k[i]).s.b
      rotate_left
      · have hne : (l[i]).m ≠ (k[i]).m := fun e => hb (congrArg Prod.snd e)
        repeat (first | refine CX.psA ?_ | refine CX.nil ?_ | refine CQ.thenN ?_ | refine CQ.thenR ?_ | refine CQ.thenX ?_ | refine CQ.blockN ?_ | refine CQ.blockR ?_ | refine CQ.blockX ?_ | refine CQ.blockYA ?_ | refine CC.seq ?_ | refine CC.block ?_ | refine CC.region ?_ | refine CC.skip ?_ | refine CC.ret ?_ | refine CC.exit ?_ | refine CC.condTA ?_ | refine CC.condFA ?_ | refine CC.condDTA ?_ | refine CC.condDFA ?_ | refine CX.storeA ?_ | refine CX.skipA ?_)
        refine CC.draw [(0, 0), (1, 0), (2, 0), (3, 0), (4, 1), (5, 0), (6, 0), (7, 0), (8, 0), (9, 1), (10, 0), (11, 0), (12, 0), (13, 0), (14, 0), (15, 0), (16, 1), (17, 0), (18, 0), (19, 0), (20, 0), (21, 1), (22, 2), (23, 0), (24, 0)] mixed rfl (by kernel_rfl) (by kernel_rfl) [exact x] ?_
        repeat (first | refine CH.pureA ?_ | refine CH.readA ?_ | refine CH.skA ?_ | refine CH.skCA ?_ | refine CH.nil ?_)
        refine CH.pure rfl (PS.indexAddr (j := i) rfl rfl rfl rfl (by omega)) ?_
        repeat (first | refine CH.pureA ?_ | refine CH.readA ?_ | refine CH.skA ?_ | refine CH.skCA ?_ | refine CH.nil ?_)
        (apply CH.read; (· rfl); (· apply PS.load (v := sv (l[i]).key); (· rfl); (· rfl); (· exact hp.1.cell (by repeat (first | exact .head _ | apply Pick.tail | apply Upd.tail)) h1 0 rfl)); (· repeat (first | exact Sel.nil _ | (apply Sel.cons; (· repeat (first | exact .head _ | apply Pick.tail | apply Upd.tail))))))
        repeat (first | refine CH.pureA ?_ | refine CH.readA ?_ | refine CH.skA ?_ | refine CH.skCA ?_ | refine CH.nil ?_)
        refine CH.pure rfl (PS.indexAddr (j := i) rfl rfl rfl rfl (by omega)) ?_
        repeat (first | refine CH.pureA ?_ | refine CH.readA ?_ | refine CH.skA ?_ | refine CH.skCA ?_ | refine CH.nil ?_)
        (apply CH.read; (· rfl); (· apply PS.load (v := sv (k[i]).key); (· rfl); (· rfl); (· exact hp.2.cell (by repeat (first | exact .head _ | apply Pick.tail | apply Upd.tail)) h2 0 rfl)); (· repeat (first | exact Sel.nil _ | (apply Sel.cons; (· repeat (first | exact .head _ | apply Pick.tail | apply Upd.tail))))))
        refine CH.pure rfl ((PS.neqStr (a := (l[i]).key) (b := (k[i]).key) rfl rfl rfl).toF (fun h => h hk)) ?_
        repeat (first | refine CH.pureA ?_ | refine CH.readA ?_ | refine CH.skA ?_ | refine CH.skCA ?_ | refine CH.nil ?_)
        refine CH.pure rfl (PS.indexAddr (j := i) rfl rfl rfl rfl (by omega)) ?_
        repeat (first | refine CH.pureA ?_ | refine CH.readA ?_ | refine CH.skA ?_ | refine CH.skCA ?_ | refine CH.nil ?_)
        (apply CH.read; (· rfl); (· apply PS.load (v := .slice (l[i]).s.a (l[i]).s.b.length (l[i]).s.c); (· rfl); (· rfl); (· exact hp.1.cell (by repeat (first | exact .head _ | apply Pick.tail | apply Upd.tail)) h1 1 rfl)); (· repeat (first | exact Sel.nil _ | (apply Sel.cons; (· repeat (first | exact .head _ | apply Pick.tail | apply Upd.tail))))))
        repeat (first | refine CH.pureA ?_ | refine CH.readA ?_ | refine CH.skA ?_ | refine CH.skCA ?_ | refine CH.nil ?_)
        refine CH.pure rfl (PS.indexAddr (j := i) rfl rfl rfl rfl (by omega)) ?_
        repeat (first | refine CH.pureA ?_ | refine CH.readA ?_ | refine CH.skA ?_ | refine CH.skCA ?_ | refine CH.nil ?_)
        (apply CH.read; (· rfl); (· apply PS.load (v := .slice (k[i]).s.a (k[i]).s.b.length (k[i]).s.c); (· rfl); (· rfl); (· exact hp.2.cell (by repeat (first | exact .head _ | apply Pick.tail | apply Upd.tail)) h2 1 rfl)); (· repeat (first | exact Sel.nil _ | (apply Sel.cons; (· repeat (first | exact .head _ | apply Pick.tail | apply Upd.tail))))))
        refine CH.chain rfl fun K hK => ?_
        refine CX.callA (same_c (l[i]).s.b (k[i]).s.b (l[i]).s.a (k[i]).s.a (l[i]).s.c (k[i]).s.c) ?_ (hpre := by exact fun y hy => ⟨rdx_ex (show Pick (exact x) _ _ from by repeat (first | exact .head _ | apply Pick.tail | apply Upd.tail)) hr.r y hy, rdx_ex (show Pick (exact x) _ _ from by repeat (first | exact .head _ | apply Pick.tail | apply Upd.tail)) hr'.r y hy⟩)
        rw [decide_eq_false hb]
        rintro _ _ ⟨rfl, rfl⟩
        (refine CX.nil ?_; refine CQ.thenK ?_; apply hK; (· repeat (first | exact Sel.nil _ | (apply Sel.cons; (· repeat (first | exact .head _ | apply Pick.tail | apply Upd.tail))))); clear hK K)
        repeat (first | refine CH.pureA ?_ | refine CH.readA ?_ | refine CH.skA ?_ | refine CH.skCA ?_ | refine CH.nil ?_)
        repeat (first | refine CX.psA ?_ | refine CX.nil ?_ | refine CQ.thenN ?_ | refine CQ.thenR ?_ | refine CQ.thenX ?_ | refine CQ.blockN ?_ | refine CQ.blockR ?_ | refine CQ.blockX ?_ | refine CQ.blockYA ?_ | refine CC.seq ?_ | refine CC.block ?_ | refine CC.region ?_ | refine CC.skip ?_ | refine CC.ret ?_ | refine CC.exit ?_ | refine CC.condTA ?_ | refine CC.condFA ?_ | refine CC.condDTA ?_ | refine CC.condDFA ?_ | refine CX.storeA ?_ | refine CX.skipA ?_)
        ((apply CQ.end1; (· rfl); (· exact .tmp rfl)); (· exact ⟨by rw [decide_eq_false fun e => hne (eat e i h1 h2)], rfl⟩); (· repeat (first | exact Sel.nil _ | (apply Sel.cons; (· repeat (first | exact .head _ | apply Pick.tail | apply Upd.tail))))))
      · have heq : (l[i]).m = (k[i]).m := by unfold RwV.m; rw [hk, hb]
        repeat (first | refine CX.psA ?_ | refine CX.nil ?_ | refine CQ.thenN ?_ | refine CQ.thenR ?_ | refine CQ.thenX ?_ | refine CQ.blockN ?_ | refine CQ.blockR ?_ | refine CQ.blockX ?_ | refine CQ.blockYA ?_ | refine CC.seq ?_ | refine CC.block ?_ | refine CC.region ?_ | refine CC.skip ?_ | refine CC.ret ?_ | refine CC.exit ?_ | refine CC.condTA ?_ | refine CC.condFA ?_ | refine CC.condDTA ?_ | refine CC.condDFA ?_ | refine CX.storeA ?_ | refine CX.skipA ?_)
        refine CC.draw [(0, 0), (1, 0), (2, 0), (3, 0), (4, 1), (5, 0), (6, 0), (7, 0), (8, 0), (9, 1), (10, 0), (11, 0), (12, 0), (13, 0), (14, 0), (15, 0), (16, 1), (17, 0), (18, 0), (19, 0), (20, 0), (21, 1), (22, 2), (23, 0), (24, 0)] mixed rfl (by kernel_rfl) (by kernel_rfl) [exact x] ?_
        repeat (first | refine CH.pureA ?_ | refine CH.readA ?_ | refine CH.skA ?_ | refine CH.skCA ?_ | refine CH.nil ?_)
        refine CH.pure rfl (PS.indexAddr (j := i) rfl rfl rfl rfl (by omega)) ?_
        repeat (first | refine CH.pureA ?_ | refine CH.readA ?_ | refine CH.skA ?_ | refine CH.skCA ?_ | refine CH.nil ?_)
        (apply CH.read; (· rfl); (· apply PS.load (v := sv (l[i]).key); (· rfl); (· rfl); (· exact hp.1.cell (by repeat (first | exact .head _ | apply Pick.tail | apply Upd.tail)) h1 0 rfl)); (· repeat (first | exact Sel.nil _ | (apply Sel.cons; (· repeat (first | exact .head _ | apply Pick.tail | apply Upd.tail))))))
        repeat (first | refine CH.pureA ?_ | refine CH.readA ?_ | refine CH.skA ?_ | refine CH.skCA ?_ | refine CH.nil ?_)
        refine CH.pure rfl (PS.indexAddr (j := i) rfl rfl rfl rfl (by omega)) ?_
        repeat (first | refine CH.pureA ?_ | refine CH.readA ?_ | refine CH.skA ?_ | refine CH.skCA ?_ | refine CH.nil ?_)
        (apply CH.read; (· rfl); (· apply PS.load (v := sv (k[i]).key); (· rfl); (· rfl); (· exact hp.2.cell (by repeat (first | exact .head _ | apply Pick.tail | apply Upd.tail)) h2 0 rfl)); (· repeat (first | exact Sel.nil _ | (apply Sel.cons; (· repeat (first | exact .head _ | apply Pick.tail | apply Upd.tail))))))
        refine CH.pure rfl ((PS.neqStr (a := (l[i]).key) (b := (k[i]).key) rfl rfl rfl).toF (fun h => h hk)) ?_
        repeat (first | refine CH.pureA ?_ | refine CH.readA ?_ | refine CH.skA ?_ | refine CH.skCA ?_ | refine CH.nil ?_)
        refine CH.pure rfl (PS.indexAddr (j := i) rfl rfl rfl rfl (by omega)) ?_
        repeat (first | refine CH.pureA ?_ | refine CH.readA ?_ | refine CH.skA ?_ | refine CH.skCA ?_ | refine CH.nil ?_)
        (apply CH.read; (· rfl); (· apply PS.load (v := .slice (l[i]).s.a (l[i]).s.b.length (l[i]).s.c); (· rfl); (· rfl); (· exact hp.1.cell (by repeat (first | exact .head _ | apply Pick.tail | apply Upd.tail)) h1 1 rfl)); (· repeat (first | exact Sel.nil _ | (apply Sel.cons; (· repeat (first | exact .head _ | apply Pick.tail | apply Upd.tail))))))
        repeat (first | refine CH.pureA ?_ | refine CH.readA ?_ | refine CH.skA ?_ | refine CH.skCA ?_ | refine CH.nil ?_)
        refine CH.pure rfl (PS.indexAddr (j := i) rfl rfl rfl rfl (by omega)) ?_
        repeat (first | refine CH.pureA ?_ | refine CH.readA ?_ | refine CH.skA ?_ | refine CH.skCA ?_ | refine CH.nil ?_)
        (apply CH.read; (· rfl); (· apply PS.load (v := .slice (k[i]).s.a (k[i]).s.b.length (k[i]).s.c); (· rfl); (· rfl); (· exact hp.2.cell (by repeat (first | exact .head _ | apply Pick.tail | apply Upd.tail)) h2 1 rfl)); (· repeat (first | exact Sel.nil _ | (apply Sel.cons; (· repeat (first | exact .head _ | apply Pick.tail | apply Upd.tail))))))
        refine CH.chain rfl fun K hK => ?_
        refine CX.callA (same_c (l[i]).s.b (k[i]).s.b (l[i]).s.a (k[i]).s.a (l[i]).s.c (k[i]).s.c) ?_ (hpre := by exact fun y hy => ⟨rdx_ex (show Pick (exact x) _ _ from by repeat (first | exact .head _ | apply Pick.tail | apply Upd.tail)) hr.r y hy, rdx_ex (show Pick (exact x) _ _ from by repeat (first | exact .head _ | apply Pick.tail | apply Upd.tail)) hr'.r y hy⟩)
        rw [decide_eq_true hb]
        rintro _ _ ⟨rfl, rfl⟩
        (refine CX.nil ?_; refine CQ.thenK ?_; apply hK; (· repeat (first | exact Sel.nil _ | (apply Sel.cons; (· repeat (first | exact .head _ | apply Pick.tail | apply Upd.tail))))); clear hK K)
        repeat (first | refine CH.pureA ?_ | refine CH.readA ?_ | refine CH.skA ?_ | refine CH.skCA ?_ | refine CH.nil ?_)
        repeat (first | refine CX.psA ?_ | refine CX.nil ?_ | refine CQ.thenN ?_ | refine CQ.thenR ?_ | refine CQ.thenX ?_ | refine CQ.blockN ?_ | refine CQ.blockR ?_ | refine CQ.blockX ?_ | refine CQ.blockYA ?_ | refine CC.seq ?_ | refine CC.block ?_ | refine CC.region ?_ | refine CC.skip ?_ | refine CC.ret ?_ | refine CC.exit ?_ | refine CC.condTA ?_ | refine CC.condFA ?_ | refine CC.condDTA ?_ | refine CC.condDFA ?_ | refine CX.storeA ?_ | refine CX.skipA ?_)
        exact CQ.round (i + 1) ⟨by omega, fun j h h' h0 => by
          by_cases e : j < i
          · exact hpre j h h' e
          · obtain rfl : j = i := by omega
            exact heq⟩ (by omega) ⟨eqI (by omega), rfl, rfl, trivial⟩ (by repeat (first | exact Sel.nil _ | (apply Sel.cons; (· repeat (first | exact .head _ | apply Pick.tail | apply Upd.tail)))))
    · obtain rfl : i = l.length := by omega
      have e : l.map RwV.m = k.map RwV.m := List.ext_getElem (by simpa using hn) fun j h h' => by simpa using hpre j (by simpa using h) (by simpa using h') (by simpa using h)
      repeat (first | refine CX.psA ?_ | refine CX.nil ?_ | refine CQ.thenN ?_ | refine CQ.thenR ?_ | refine CQ.thenX ?_ | refine CQ.blockN ?_ | refine CQ.blockR ?_ | refine CQ.blockX ?_ | refine CQ.blockYA ?_ | refine CC.seq ?_ | refine CC.block ?_ | refine CC.region ?_ | refine CC.skip ?_ | refine CC.ret ?_ | refine CC.exit ?_ | refine CC.condTA ?_ | refine CC.condFA ?_ | refine CC.condDTA ?_ | refine CC.condDFA ?_ | refine CX.storeA ?_ | refine CX.skipA ?_)
      ((apply CQ.end1; (· rfl); (· exact .tmp rfl)); (· exact ⟨by rw [decide_eq_true e], rfl⟩); (· repeat (first | exact Sel.nil _ | (apply Sel.cons; (· repeat (first | exact .head _ | apply Pick.tail | apply Upd.tail))))))
  · have e : l.map RwV.m ≠ k.map RwV.m := fun h => hn (by simpa using congrArg List.length h)
    repeat (first | refine CX.psA ?_ | refine CX.nil ?_ | refine CQ.thenN ?_ | refine CQ.thenR ?_ | refine CQ.thenX ?_ | refine CQ.blockN ?_ | refine CQ.blockR ?_ | refine CQ.blockX ?_ | refine CQ.blockYA ?_ | refine CC.seq ?_ | refine CC.block ?_ | refine CC.region ?_ | refine CC.skip ?_ | refine CC.ret ?_ | refine CC.exit ?_ | refine CC.condTA ?_ | refine CC.condFA ?_ | refine CC.condDTA ?_ | refine CC.condDFA ?_ | refine CX.storeA ?_ | refine CX.skipA ?_)
    ((apply CQ.end1; (· rfl); (· exact .tmp rfl)); (· exact ⟨by rw [decide_eq_false e], rfl⟩); (· repeat (first | exact Sel.nil _ | (apply Sel.cons; (· repeat (first | exact .head _ | apply Pick.tail | apply Upd.tail))))))
end Go.Proofs.Ytlckhaodecdbbaa
