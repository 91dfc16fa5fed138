/- Part K7: Er, Es, Ji, Jj, L7, L7r, L7c, Sb, Pc, Pd, Sr, Sc, So, L9, Rw8, L9g, L9s, Jt, Ju, Jv. -/
import Derived.Test.YtlckhaodecdbbaaGreatDoorKT
import Derived.Test.YtlckhaodecdbbaaGreatDoorK4
import Derived.Test.YtlckhaodecdbbaaGreatDoorK2
import Derived.Test.YtlckhaodecdbbaaGreatDoorK6
import Derived.Test.YtlckhaodecdbbaaGreatDoorK5
import Derived.Test.YtlckhaodecdbbaaGreatDoorK3
import Derived.WalkKit
import Derived.LaidEql
import Derived.Stop.Asserts
import Derived.RowKitTokens
import Derived.Laws.Entries
set_option linter.unusedVariables false
set_option linter.unusedSimpArgs false
/-! errors.As and errors.Is, at the errors that store makes: closed facts on reflectlite's entries, and walks of Go's own text (after the worked examples' manner). -/
namespace Go.Proofs.YtlckhaodecdbbaaGreatDoor
open Go.RowKit Go.Extern.Stop Go.Stop Go.Extern

theorem er_types : Tryz.prog.types.size = 289 := by kernel_rfl

theorem er_eql_int {P : Program} {ti tp : TypeId} {ms : Array (String × TypeId)} {i : TypeInfo} (p q : Int) (w : World) (hi : P.underlying ti = some (.interface ms)) (hp : P.underlying tp = some (.int .i64)) (hinfo : P.info? tp = some i) (hcomp : i.comparable = true) :
    (binOp .eql ti (.iface tp (.int .i64 p)) (.iface tp (.int .i64 q))).run P w = .ok (.bool (decide (p = q))) w := by
  have h : ∀ d : Nat, (Op.equalIn (d + 2) ti (.iface tp (.int .i64 p)) (.iface tp (.int .i64 q))).run P w = .ok (decide (p = q)) w := fun d => by
    simp [Op.equalIn, run_underlying hi, run_underlying hp, typeInfo, hinfo, hcomp]; rfl
  simp only [binOp]
  simp [Op.equal, Op.maxDepth, h 9998]

/-! reflectlite's entries -/
theorem er_valueOfP (t : Addr) (w : World) : (ReflectliteValue.unpack (.iface 140 (.pointer (some t)))).run Tryz.prog w
    = .ok (.agg #[.pointer (some ⟨1, 140, none⟩), .pointer (some ⟨w.heap.size, 0, none⟩), .int .u64 150]) (w.alloc (.cells #[.pointer (some t)] 140)) := by kernel_rfl
theorem er_typeP (a : Addr) (w : World) : (ReflectliteValue.methodAny (ReflectliteValue.valueError "reflectlite.Value.Type" 0) (fun t _ _ _ => ReflectliteType.toType t) #[.agg #[.pointer (some ⟨1, 140, none⟩), .pointer (some a), .int .u64 150]]).run Tryz.prog w
    = .ok (.iface 210 (.agg #[.pointer (some ⟨1, 140, none⟩)])) w := by kernel_rfl
theorem er_methodKind (h : Value) (w : World) : (Go.method 389 210 (.agg #[h]) "Kind").run Tryz.prog w = .ok (217, h) w := by kernel_rfl
theorem er_kindP (w : World) : ((ReflectliteType.abiMethod fun t => (fun a : Nat => Value.int IntKind.u8 (a : Int)) <$> Rtype.kind t) #[.pointer (some ⟨1, 140, none⟩)]).run Tryz.prog w = .ok (.int .u8 22) w := by kernel_rfl
theorem er_kindE (w : World) : ((ReflectliteType.abiMethod fun t => (fun a : Nat => Value.int IntKind.u8 (a : Int)) <$> Rtype.kind t) #[.pointer (some ⟨1, 26, none⟩)]).run Tryz.prog w = .ok (.int .u8 2) w := by kernel_rfl
theorem er_rlm (z : Sem Value) (f : TypeId → Addr → Nat → Nat → Sem Value) (v : Value) :
    ReflectliteValue.method z f #[v] = (do match ← ReflectliteValue.parts v with | none => z | some (t, a, fl) => f t a fl (fl % 32)) := rfl
theorem er_partsP (a : Addr) (w : World) : (ReflectliteValue.parts (.agg #[.pointer (some ⟨1, 140, none⟩), .pointer (some a), .int .u64 150])).run Tryz.prog w = .ok (some (140, a, 150)) w := by kernel_rfl
theorem er_isNilP (a p : Addr) (W : World) (ha : W.cell? a = some (.pointer (some p))) :
    (ReflectliteValue.method (ReflectliteValue.valueError "reflectlite.Value.IsNil" 0) ReflectliteValue.isNil #[.agg #[.pointer (some ⟨1, 140, none⟩), .pointer (some a), .int .u64 150]]).run Tryz.prog W = .ok (.bool false) W := by
  rw [er_rlm]
  simp only [Sem.run_bind, er_partsP, Result.andThen]
  simp [ReflectliteValue.isNil, loadVar, isAgg, underlying, Tryz.underlying140, ha, Result.andThen]
theorem er_methodElem (h : Value) (w : World) : (Go.method 389 210 (.agg #[h]) "Elem").run Tryz.prog w = .ok (229, .agg #[h]) w := by kernel_rfl
theorem er_methodImpl (h : Value) (w : World) : (Go.method 389 210 (.agg #[h]) "Implements").run Tryz.prog w = .ok (230, .agg #[h]) w := by kernel_rfl
theorem er_methodAssign (h : Value) (w : World) : (Go.method 389 210 (.agg #[h]) "AssignableTo").run Tryz.prog w = .ok (227, .agg #[h]) w := by kernel_rfl
theorem er_methodComp (h : Value) (w : World) : (Go.method 389 210 (.agg #[h]) "Comparable").run Tryz.prog w = .ok (228, .agg #[h]) w := by kernel_rfl
theorem er_methodUnwrap (v : Value) (w : World) : (Go.method 389 176 v "Unwrap").run Tryz.prog w = .ok (222, v) w := by kernel_rfl
theorem er_elemP (w : World) : (ReflectliteType.method ReflectliteType.elem #[.agg #[.pointer (some ⟨1, 140, none⟩)]]).run Tryz.prog w = .ok (.iface 210 (.agg #[.pointer (some ⟨1, 26, none⟩)])) w := by kernel_rfl
theorem er_implE (w : World) : (ReflectliteType.relation "Implements" ReflectliteType.implements_ #[.agg #[.pointer (some ⟨1, 26, none⟩)], .iface 210 (.agg #[.pointer (some ⟨1, 87, none⟩)])]).run Tryz.prog w = .ok (.bool true) w := by kernel_rfl
theorem er_typeOfE (v : Value) (w : World) : (ReflectliteType.typeOf #[.iface 26 v]).run Tryz.prog w = .ok (.iface 210 (.agg #[.pointer (some ⟨1, 26, none⟩)])) w := by kernel_rfl
theorem er_typeOfF (v : Value) (w : World) : (ReflectliteType.typeOf #[.iface 176 v]).run Tryz.prog w = .ok (.iface 210 (.agg #[.pointer (some ⟨1, 176, none⟩)])) w := by kernel_rfl
theorem er_compE (w : World) : (callFunc 228 #[.agg #[.pointer (some ⟨1, 26, none⟩)]]).run Tryz.prog w = .ok (.value (.bool true)) w := by
  rw [@run_callFunc_extern Tryz.prog 228 _ (Extern.ReflectliteType.method fun t => do Go.Extern.Rtype.noPackHeld "Comparable" t; pure (.bool (← typeInfo t).comparable)) Tryz.func228 (by kernel_rfl) (by kernel_rfl) (by kernel_rfl) (by kernel_rfl)]
  rw [show ((Extern.ReflectliteType.method fun t => do Go.Extern.Rtype.noPackHeld "Comparable" t; pure (.bool (← typeInfo t).comparable)) #[.agg #[.pointer (some ⟨1, 26, none⟩)]]).run Tryz.prog w = .ok (.bool true) w by kernel_rfl]
  rfl
theorem er_assignE (w : World) : (ReflectliteType.relation "AssignableTo" ReflectliteType.assignableTo #[.agg #[.pointer (some ⟨1, 26, none⟩)], .iface 210 (.agg #[.pointer (some ⟨1, 26, none⟩)])]).run Tryz.prog w = .ok (.bool true) w := by kernel_rfl
theorem er_assignF (w : World) : (ReflectliteType.relation "AssignableTo" ReflectliteType.assignableTo #[.agg #[.pointer (some ⟨1, 176, none⟩)], .iface 210 (.agg #[.pointer (some ⟨1, 26, none⟩)])]).run Tryz.prog w = .ok (.bool false) w := by kernel_rfl
theorem er_valueOfE (e : Int) (w : World) : (ReflectliteValue.unpack (.iface 26 (.int .i64 e))).run Tryz.prog w
    = .ok (.agg #[.pointer (some ⟨1, 26, none⟩), .pointer (some ⟨w.heap.size, 0, none⟩), .int .u64 130]) (w.alloc (.cells #[.int .i64 e] 26)) := by kernel_rfl
theorem er_elemOfP (w : World) : (Rtype.elem? 140).run Tryz.prog w = .ok (some 26) w := by kernel_rfl
theorem er_mkE (p : Addr) (w : World) : (ReflectliteValue.mk 26 p ReflectliteValue.flagAddr).run Tryz.prog w = .ok (.agg #[.pointer (some ⟨1, 26, none⟩), .pointer (some p), .int .u64 386]) w := by kernel_rfl
theorem er_elemVP (a p : Addr) (W : World) (ha : W.cell? a = some (.pointer (some p))) :
    (ReflectliteValue.method (ReflectliteValue.valueError "reflectlite.Value.Elem" 0) ReflectliteValue.elem #[.agg #[.pointer (some ⟨1, 140, none⟩), .pointer (some a), .int .u64 150]]).run Tryz.prog W
      = .ok (.agg #[.pointer (some ⟨1, 26, none⟩), .pointer (some p), .int .u64 386]) W := by
  rw [er_rlm]
  simp only [Sem.run_bind, er_partsP, Result.andThen]
  simp [ReflectliteValue.elem, loadVar, isAgg, underlying, Tryz.underlying140, ha, Result.andThen, er_elemOfP, er_mkE]
theorem er_rls (v x : Value) : ReflectliteValue.set #[v, x] = (do
    let (some (dst, a, fl), some (src, b, _)) := (← ReflectliteValue.parts v, ← ReflectliteValue.parts x)
      | unsupported (.noEntry "extern/(internal/reflectlite.Value).Set.zeroValue")
    if fl / ReflectliteValue.flagAddr % 2 == 0 then unsupported (.noEntry "extern/(internal/reflectlite.Value).Set.unaddressable")
    let val ← loadVar src b
    if ← Rtype.directlyAssignable dst src then storeVar dst a val
    else if ← Rtype.implements dst src then
      if (← Rtype.kind src) == 20 then
        match val with
        | .nilIface => unsupported (.noEntry "extern/reflectlite: a nil value of one interface type handed on as a value of another")
        | _ => storeVar dst a val
      else storeVar dst a (.iface src val)
    else panicString ("reflectlite.Set: value of type " ++ (← Rtype.spelt src) ++ " is not assignable to type " ++ (← Rtype.spelt dst))
    pure (.tuple #[])) := rfl
theorem er_partsEa (a : Addr) (w : World) : (ReflectliteValue.parts (.agg #[.pointer (some ⟨1, 26, none⟩), .pointer (some a), .int .u64 386])).run Tryz.prog w = .ok (some (26, a, 386)) w := by kernel_rfl
theorem er_partsE (a : Addr) (w : World) : (ReflectliteValue.parts (.agg #[.pointer (some ⟨1, 26, none⟩), .pointer (some a), .int .u64 130])).run Tryz.prog w = .ok (some (26, a, 130)) w := by kernel_rfl
theorem er_directE (w : World) : (Rtype.directlyAssignable 26 26).run Tryz.prog w = .ok true w := by kernel_rfl
theorem er_setE (ta b : Addr) (e : Int) (old : Value) (W : World) (hb : W.cell? b = some (.int .i64 e)) (ht : W.cell? ta = some old) (hf : W.frozen? ta = false) :
    (ReflectliteValue.set #[.agg #[.pointer (some ⟨1, 26, none⟩), .pointer (some ta), .int .u64 386], .agg #[.pointer (some ⟨1, 26, none⟩), .pointer (some b), .int .u64 130]]).run Tryz.prog W
      = .ok (.tuple #[]) (W.setCell ta (.int .i64 e)) := by
  rw [er_rls]
  simp only [Sem.run_bind, er_partsEa, er_partsE, Result.andThen]
  simp [ReflectliteValue.flagAddr, loadVar, isAgg, underlying, Tryz.underlying26, hb, Result.andThen, er_directE, storeVar, Value.cells, storeCells, Addr.add]
  rw [run_store Tryz.prog W ta _ _ (by rfl)]
  simp [ht, hf]

/-! what the assertions find -/
theorem er_noAsF (v : Value) (xT : TypeId) (w : World) : (Instr.typeAssert (.iface 176 v) xT 214 true).run Tryz.prog w = .ok (.tuple #[.nilIface, .bool false]) w := run_typeAssert_lacksB Tryz.underlying214 (by kernel_rfl) (by kernel_rfl) v xT w
theorem er_noIsF (v : Value) (xT : TypeId) (w : World) : (Instr.typeAssert (.iface 176 v) xT 238 true).run Tryz.prog w = .ok (.tuple #[.nilIface, .bool false]) w := run_typeAssert_lacksB Tryz.underlying238 (by kernel_rfl) (by kernel_rfl) v xT w
theorem er_unF (v : Value) (xT : TypeId) (w : World) : (Instr.typeAssert (.iface 176 v) xT 217 true).run Tryz.prog w = .ok (.tuple #[.iface 176 v, .bool true]) w := run_typeAssert_hasB Tryz.underlying217 (by kernel_rfl) v xT w
theorem er_noIsE (v : Value) (xT : TypeId) (w : World) : (Instr.typeAssert (.iface 26 v) xT 238 true).run Tryz.prog w = .ok (.tuple #[.nilIface, .bool false]) w := run_typeAssert_lacksB Tryz.underlying238 (by kernel_rfl) (by kernel_rfl) v xT w
theorem er_noUnE (v : Value) (xT : TypeId) (w : World) : (Instr.typeAssert (.iface 26 v) xT 217 true).run Tryz.prog w = .ok (.tuple #[.nilIface, .bool false]) w := run_typeAssert_lacksB Tryz.underlying217 (by kernel_rfl) (by kernel_rfl) v xT w
theorem er_noUnsE (v : Value) (xT : TypeId) (w : World) : (Instr.typeAssert (.iface 26 v) xT 219 true).run Tryz.prog w = .ok (.tuple #[.nilIface, .bool false]) w := run_typeAssert_lacksB Tryz.underlying219 (by kernel_rfl) (by kernel_rfl) v xT w
theorem er_compInfo : (Tryz.prog.info? 26).map (·.comparable) = some true := by kernel_rfl

/-- errors.Is(nil, an Errno). -/
theorem is_nil9 (k : Int) (w : World) :
    Calls Tryz.prog 130 #[.nilIface, .iface 26 (.int .i64 k)] w fun e w' => e = .returned (.bool false) ∧ w' = w := by
  have hn := run_eql_iface_nil_left (P := Tryz.prog) w 26 (.int .i64 k) Tryz.underlying87
  go_enter Tryz.func130, Tryz.ntmps130
  go_wp2
  go_ret
  exact ⟨rfl, rfl⟩

set_option maxHeartbeats 4000000 in
/-- errors.Is(a failed that wraps e, k): e = k. -/
theorem is_failed9 (pb po : Nat) (e k : Int) (w : World) (h1 : w.cell? ⟨pb, po + 1, none⟩ = some (.iface 26 (.int .i64 e))) :
    Calls Tryz.prog 130 #[.iface 176 (.pointer (some ⟨pb, po, none⟩)), .iface 26 (.int .i64 k)] w fun ev w' => ev = .returned (.bool (decide (e = k))) ∧ w' = w := by
  obtain ⟨i, hi, hcmp⟩ := Option.map_eq_some_iff.1 er_compInfo
  have h8 := @run_callFunc_extern Tryz.prog 158 _ Extern.ReflectliteType.typeOf Tryz.func158 (by kernel_rfl) (by kernel_rfl) (by kernel_rfl) (by kernel_rfl)
  have tT := er_typeOfE
  have cT := er_compE
  have mR := er_methodComp
  have nF := er_noIsF
  have uF := er_unF
  have mU := er_methodUnwrap
  have nE := er_noIsE
  have nU := er_noUnE
  have nV := er_noUnsE
  have heq := er_eql_int (P := Tryz.prog) e k w Tryz.underlying87 Tryz.underlying26 hi hcmp
  have hty := run_eql_iface_types (P := Tryz.prog) 176 26 (.pointer (some ⟨pb, po, none⟩)) (.int .i64 k) Tryz.underlying87 (by decide) w
  by_cases hek : e = k
  · simp only [hek, decide_true] at heq ⊢
    rw [hek] at h1
    go_enter Tryz.func130, Tryz.ntmps130
    go_wp2
    refine wp_loop_rounds 2 ?_
    rw [rounds_succ]
    go_wp2
    rw [rounds_succ]
    go_wp2
    go_ret
    exact ⟨rfl, rfl⟩
  · simp only [hek, decide_false] at heq ⊢
    go_enter Tryz.func130, Tryz.ntmps130
    go_wp2
    refine wp_loop_rounds 2 ?_
    rw [rounds_succ]
    go_wp2
    rw [rounds_succ]
    go_wp2
    go_ret
    exact ⟨rfl, rfl⟩

set_option maxHeartbeats 4000000 in
/-- errors.As(a failed that wraps e, &v): v = e. -/
theorem as_failed9 (pb po : Nat) (e : Int) (t : Addr) (old : Value) (w : World) (hg : w.cell? ⟨0, 0, none⟩ = some (.iface 210 (.agg #[.pointer (some ⟨1, 87, none⟩)])))
    (h1 : w.cell? ⟨pb, po + 1, none⟩ = some (.iface 26 (.int .i64 e))) (ht0 : w.cell? t = some old) (hf0 : w.frozen? t = false) :
    Calls Tryz.prog 91 #[.iface 176 (.pointer (some ⟨pb, po, none⟩)), .iface 140 (.pointer (some t))] w fun ev w' => ev = .returned (.bool true) ∧ w' = ((((w.alloc (.cells #[.pointer (some t)] 140)).alloc (.cells #[.pointer (some ⟨1, 140, none⟩), .pointer (some ⟨w.heap.size, 0, none⟩), .int .u64 150] 185)).alloc (.cells #[.pointer (some ⟨1, 140, none⟩), .pointer (some ⟨w.heap.size, 0, none⟩), .int .u64 150] 185)).alloc (.cells #[.int .i64 e] 26)).setCell t (.int .i64 e) := by
  have h6 := @run_callFunc_extern Tryz.prog 132 _ (fun args => ReflectliteValue.unpack (args.getD 0 (.tuple #[]))) Tryz.func132 (by kernel_rfl) (by kernel_rfl) (by kernel_rfl) (by kernel_rfl)
  have h7 := @run_callFunc_extern Tryz.prog 133 _ (ReflectliteValue.methodAny (ReflectliteValue.valueError "reflectlite.Value.Type" 0) (fun t _ _ _ => ReflectliteType.toType t)) Tryz.func133 (by kernel_rfl) (by kernel_rfl) (by kernel_rfl) (by kernel_rfl)
  have h8 := @run_callFunc_extern Tryz.prog 134 _ (ReflectliteValue.method (ReflectliteValue.valueError "reflectlite.Value.IsNil" 0) ReflectliteValue.isNil) Tryz.func134 (by kernel_rfl) (by kernel_rfl) (by kernel_rfl) (by kernel_rfl)
  have h27 := @run_callFunc_extern Tryz.prog 217 _ (ReflectliteType.abiMethod fun t => do pure (.int .u8 (← Rtype.kind t))) Tryz.func217 (by kernel_rfl) (by kernel_rfl) (by kernel_rfl) (by kernel_rfl)
  have h37 := @run_callFunc_extern Tryz.prog 229 _ (ReflectliteType.method ReflectliteType.elem) Tryz.func229 (by kernel_rfl) (by kernel_rfl) (by kernel_rfl) (by kernel_rfl)
  have h38 := @run_callFunc_extern Tryz.prog 230 _ (ReflectliteType.relation "Implements" ReflectliteType.implements_) Tryz.func230 (by kernel_rfl) (by kernel_rfl) (by kernel_rfl) (by kernel_rfl)
  have h10 := @run_callFunc_extern Tryz.prog 158 _ ReflectliteType.typeOf Tryz.func158 (by kernel_rfl) (by kernel_rfl) (by kernel_rfl) (by kernel_rfl)
  have h35 := @run_callFunc_extern Tryz.prog 227 _ (ReflectliteType.relation "AssignableTo" ReflectliteType.assignableTo) Tryz.func227 (by kernel_rfl) (by kernel_rfl) (by kernel_rfl) (by kernel_rfl)
  have h11 := @run_callFunc_extern Tryz.prog 162 _ (ReflectliteValue.method (ReflectliteValue.valueError "reflectlite.Value.Elem" 0) ReflectliteValue.elem) Tryz.func162 (by kernel_rfl) (by kernel_rfl) (by kernel_rfl) (by kernel_rfl)
  have h12 := @run_callFunc_extern Tryz.prog 163 _ ReflectliteValue.set Tryz.func163 (by kernel_rfl) (by kernel_rfl) (by kernel_rfl) (by kernel_rfl)
  have tE := er_typeOfE
  have tF := er_typeOfF
  have mA := er_methodAssign
  have aE := er_assignE
  have aF := er_assignF
  have vE := er_valueOfE
  have f6 := er_valueOfP
  have f7 := er_typeP
  have mK := er_methodKind
  have mE := er_methodElem
  have mI := er_methodImpl
  have mU := er_methodUnwrap
  have kP := er_kindP
  have kE := er_kindE
  have eP := er_elemP
  have iE := er_implE
  have nA := er_noAsF
  have uF := er_unF
  have n8 := er_isNilP ⟨w.heap.size, 0, none⟩ t ((w.alloc (.cells #[.pointer (some t)] 140)).alloc (.cells #[.pointer (some ⟨1, 140, none⟩), .pointer (some ⟨w.heap.size, 0, none⟩), .int .u64 150] 185)) (by simp)
  have hlt : 0 < w.heap.size := by
    rcases Nat.eq_zero_or_pos w.heap.size with h0 | h
    · simp [World.cell?, h0] at hg
    · exact h
  have hg2 : ((w.alloc (.cells #[.pointer (some t)] 140)).alloc (.cells #[.pointer (some ⟨1, 140, none⟩), .pointer (some ⟨w.heap.size, 0, none⟩), .int .u64 150] 185)).cell? ⟨0, 0, none⟩ = some (.iface 210 (.agg #[.pointer (some ⟨1, 87, none⟩)])) := by
    rw [World.cell?_alloc_lt _ _ ⟨0, 0, none⟩ (by simp), World.cell?_alloc_lt _ _ ⟨0, 0, none⟩ hlt]; exact hg
  have htl : t.block < w.heap.size := by
    rcases Nat.lt_or_ge t.block w.heap.size with h | h
    · exact h
    · simp [World.cell?, Array.getElem?_eq_none h] at ht0
  have hpl : pb < w.heap.size := by
    rcases Nat.lt_or_ge pb w.heap.size with h | h
    · exact h
    · simp [World.cell?, Array.getElem?_eq_none h] at h1
  have h13 : (((w.alloc (.cells #[.pointer (some t)] 140)).alloc (.cells #[.pointer (some ⟨1, 140, none⟩), .pointer (some ⟨w.heap.size, 0, none⟩), .int .u64 150] 185)).alloc (.cells #[.pointer (some ⟨1, 140, none⟩), .pointer (some ⟨w.heap.size, 0, none⟩), .int .u64 150] 185)).cell? ⟨pb, po + 1, none⟩ = some (.iface 26 (.int .i64 e)) := by
    rw [World.cell?_alloc_lt _ _ _ (by simp; omega), World.cell?_alloc_lt _ _ _ (by simp; omega), World.cell?_alloc_lt _ _ _ hpl]; exact h1
  have el := er_elemVP ⟨w.heap.size, 0, none⟩ t (((w.alloc (.cells #[.pointer (some t)] 140)).alloc (.cells #[.pointer (some ⟨1, 140, none⟩), .pointer (some ⟨w.heap.size, 0, none⟩), .int .u64 150] 185)).alloc (.cells #[.pointer (some ⟨1, 140, none⟩), .pointer (some ⟨w.heap.size, 0, none⟩), .int .u64 150] 185)) (by rw [World.cell?_alloc_lt _ _ ⟨w.heap.size, 0, none⟩ (by simp; omega)]; simp)
  have st := er_setE t ⟨w.heap.size + 1 + 1 + 1, 0, none⟩ e old ((((w.alloc (.cells #[.pointer (some t)] 140)).alloc (.cells #[.pointer (some ⟨1, 140, none⟩), .pointer (some ⟨w.heap.size, 0, none⟩), .int .u64 150] 185)).alloc (.cells #[.pointer (some ⟨1, 140, none⟩), .pointer (some ⟨w.heap.size, 0, none⟩), .int .u64 150] 185)).alloc (.cells #[.int .i64 e] 26))
    (by rw [World.cell?_alloc_at _ _ _ _ (by simp)]; rfl)
    (by rw [World.cell?_alloc_lt _ _ t (by simp; omega), World.cell?_alloc_lt _ _ t (by simp; omega), World.cell?_alloc_lt _ _ t (by simp; omega), World.cell?_alloc_lt _ _ t htl]; exact ht0)
    (by rw [World.frozen?_alloc_old _ _ t (by simp; omega), World.frozen?_alloc_old _ _ t (by simp; omega), World.frozen?_alloc_old _ _ t (by simp; omega), World.frozen?_alloc_old _ _ t (Nat.ne_of_lt htl)]; exact hf0)
  go_enter Tryz.func91, Tryz.ntmps91
  go_wp2
  refine wp_loop_rounds 2 ?_
  rw [rounds_succ]
  go_wp2
  rw [rounds_succ]
  go_wp2
  go_ret
  exact ⟨rfl, rfl⟩
end Go.Proofs.YtlckhaodecdbbaaGreatDoor
/-! Stepping through interfaces; the contracts of store's own errors (wrap, full, told). -/
namespace Go.Cx
section
variable {P : Program} {ops : Array Oper} {Q : Exit → Act → World → Prop} {n : Nat} {e0 : World} {env : Env} {L R : List Assn} {rest : List Oper}
variable {dst : Option Tmp} {ty : TypeId} {pos : String} {aft : Array Edge} {g : Option (Nat × Bool)} {op : Op}
theorem run_eqIfNil {ti tp : TypeId} {ms : Array (String × TypeId)} (v : Value) (w : World) (hi : P.underlying ti = some (.interface ms)) : (binOp .eql ti (.iface tp v) .nilIface).run P w = .ok (.bool false) w := by
  have h : ∀ d : Nat, (Op.equalIn (d + 1) ti (.iface tp v) .nilIface).run P w = .ok false w := fun d => by simp [Op.equalIn, run_underlying hi]
  simp only [binOp]
  simp [Op.equal, Op.maxDepth, h 9999]
theorem run_neIfNil {ti tp : TypeId} {ms : Array (String × TypeId)} (v : Value) (w : World) (hi : P.underlying ti = some (.interface ms)) : (binOp .neq ti (.iface tp v) .nilIface).run P w = .ok (.bool true) w := by
  have h : ∀ d : Nat, (Op.equalIn (d + 1) ti (.iface tp v) .nilIface).run P w = .ok false w := fun d => by simp [Op.equalIn, run_underlying hi]
  simp only [binOp]
  simp [Op.equal, Op.maxDepth, h 9999]
theorem run_eqNilNil {ti : TypeId} {ms : Array (String × TypeId)} (w : World) (hi : P.underlying ti = some (.interface ms)) : (binOp .eql ti .nilIface .nilIface).run P w = .ok (.bool true) w := by
  have h : ∀ d : Nat, (Op.equalIn (d + 1) ti .nilIface .nilIface).run P w = .ok true w := fun d => by simp [Op.equalIn, run_underlying hi]
  simp only [binOp]
  simp [Op.equal, Op.maxDepth, h 9999]
theorem run_neNilNil {ti : TypeId} {ms : Array (String × TypeId)} (w : World) (hi : P.underlying ti = some (.interface ms)) : (binOp .neq ti .nilIface .nilIface).run P w = .ok (.bool false) w := by
  have h : ∀ d : Nat, (Op.equalIn (d + 1) ti .nilIface .nilIface).run P w = .ok true w := fun d => by simp [Op.equalIn, run_underlying hi]
  simp only [binOp]
  simp [Op.equal, Op.maxDepth, h 9999]
theorem guard_ifNil {o : BinOp} {t : TypeId} {x y : Operand} {tp : TypeId} (v : Value) : eqGuard o t x y (.iface tp v) .nilIface = pure () := by cases o <;> rfl
theorem PS.eqlIfF {t u tp : TypeId} {ms : Array (String × TypeId)} {x : Operand} {v : Value} (hi : P.underlying t = some (.interface ms)) (hg : gd ops n env g = some true := by rfl) (hx : ev n env x = some (.iface tp v) := by rfl) :
    PS P ops n env L ⟨dst, .binOp .eql t x (.const .nilIface) u, ty, pos, aft, g⟩ (.bool false) :=
  ⟨hg, (fun a w hfr _ => by simp [execOp, hfr.eval hx, eval_const, guard_ifNil, run_eqIfNil v w hi])⟩
theorem PS.neqIfT {t u tp : TypeId} {ms : Array (String × TypeId)} {x : Operand} {v : Value} (hi : P.underlying t = some (.interface ms)) (hg : gd ops n env g = some true := by rfl) (hx : ev n env x = some (.iface tp v) := by rfl) :
    PS P ops n env L ⟨dst, .binOp .neq t x (.const .nilIface) u, ty, pos, aft, g⟩ (.bool true) :=
  ⟨hg, (fun a w hfr _ => by simp [execOp, hfr.eval hx, eval_const, guard_ifNil, run_neIfNil v w hi])⟩
theorem PS.eqlIfT {t u : TypeId} {ms : Array (String × TypeId)} {x : Operand} (hi : P.underlying t = some (.interface ms)) (hg : gd ops n env g = some true := by rfl) (hx : ev n env x = some .nilIface := by rfl) :
    PS P ops n env L ⟨dst, .binOp .eql t x (.const .nilIface) u, ty, pos, aft, g⟩ (.bool true) :=
  ⟨hg, (fun a w hfr _ => by simp [execOp, hfr.eval hx, eval_const, eqGuard_nil_constR, run_eqNilNil w hi])⟩
theorem PS.neqIfF {t u : TypeId} {ms : Array (String × TypeId)} {x : Operand} (hi : P.underlying t = some (.interface ms)) (hg : gd ops n env g = some true := by rfl) (hx : ev n env x = some .nilIface := by rfl) :
    PS P ops n env L ⟨dst, .binOp .neq t x (.const .nilIface) u, ty, pos, aft, g⟩ (.bool false) :=
  ⟨hg, (fun a w hfr _ => by simp [execOp, hfr.eval hx, eval_const, eqGuard_nil_constR, run_neNilNil w hi])⟩
theorem PS.mkIf {t : TypeId} {x : Operand} {v : Value} (hc : P.concrete t = true) (hg : gd ops n env g = some true := by rfl) (hx : ev n env x = some v := by rfl) :
    PS P ops n env L ⟨dst, .makeInterface t x, ty, pos, aft, g⟩ (.iface t v) :=
  ⟨hg, (fun a w hfr _ => by simp [execOp, hfr.eval hx, run_makeInterface w t v hc])⟩
end
theorem Ctr.same {P : Program} {f : FuncId} {args : List Value} {H : List Assn} {pre : PH → Prop} {v : Value}
    (h : ∀ x w, Sep (H ++ [exact x]) w.ph → pre x → Calls P f args.toArray w fun e w' => e = .returned v ∧ w' = w) : Ctr P f args H pre (fun u M => u = v ∧ M = H) :=
  fun x w hs hp => (h x w hs hp).mono fun e w' ⟨a, b⟩ => ⟨v, H, ⟨rfl, rfl⟩, a, by rw [b]; exact hs, by rw [b]; exact Env0.refl w⟩
theorem cell_bk {b t o : Nat} {cs : List Value} {v : Value} {L M : List Assn} {w : World} (p : Pick (bk b t cs) L M) (hv : cs[o]? = some v) (hs : Sep L w.ph) : w.cell? ⟨b, o, none⟩ = some v := by
  have h := bk_ok.1 (p.ok hs)
  simp only [World.ph] at h
  simp [World.cell?, h, hv]
theorem frozen_bk {b t o : Nat} {cs : List Value} {L M : List Assn} {w : World} (p : Pick (bk b t cs) L M) (hs : Sep L w.ph) : w.frozen? ⟨b, o, none⟩ = false := by
  have h := bk_ok.1 (p.ok hs)
  simp only [World.ph] at h
  simp [World.frozen?, h]
theorem Sep.setCell {L L' : List Assn} {w : World} {b t o : Nat} {cs : List Value} {v : Value} (u : Upd (bk b t cs) (bk b t (cs.set o v)) L L') (s : Sep L w.ph) : Sep L' (w.setCell ⟨b, o, none⟩ v).ph := by
  obtain ⟨M, pa, -⟩ := u.pick
  have h := bk_ok.1 (pa.ok s)
  rw [ph_setCell h]
  refine Sep.upd u (fun k hk => by rw [bk_ok.1 hk]; rfl) (fun k hl hk => bk_ok.2 ?_) s
  simp [PH.put]
end Go.Cx
namespace Go.Proofs.YtlckhaodecdbbaaGreatDoor
open Go.Cx
attribute [local irreducible] Go.Cx.CX Go.Cx.CC Go.Cx.CQ Go.Cx.PS Go.Cx.Ctr Go.Cx.CH
set_option maxRecDepth 10000
/-- An error of store's making. -/
def ErrV (e : Int) (v : Value) (M : List Assn) : Prop :=
  (e = 0 ∧ v = .nilIface ∧ M = []) ∨ (e ≠ 0 ∧ ∃ b s, v = .iface 176 (.pointer (some ⟨b, 0, none⟩)) ∧ M = [bk b 178 [s, .iface 26 (.int .i64 e)]])
theorem wrap_c (z : ByteArray) (e : Int) : Ctr Tryz.prog 86 [.string z, .int .i64 e] [] (fun _ => True) (ErrV e) := by
  unfold ErrV
  refine Ctr.intro Tryz.func86 rfl Tryz.ntmps86 rfl fun x w hp => ?_
  by_cases h : e = 0
  · refine wk ?_
    (apply CQ.end1; (· rfl); (· exact .tmp rfl))
    · exact .inl ⟨h, rfl, rfl⟩
    · exact selA
  · refine wk ?_
    refine CX.ps (PS.mkIf (by kernel_rfl)) ?_
    refine CX.ps (PS.build (vs := [(0, .string z), (1, .iface 26 (.int .i64 e))]) (out := [.string z, .iface 26 (.int .i64 e)]) rfl rfl rfl) ?_
    (refine CX.boxA (vs := [.string z, .iface 26 (.int .i64 e)]) ?_; intro b)
    refine CX.ps (PS.mkIf (by kernel_rfl)) ?_
    refine wk ?_
    (apply CQ.end1; (· rfl); (· exact .tmp rfl))
    · exact .inr ⟨h, b, .string z, rfl, rfl⟩
    · exact selA
theorem isNil_c (k : Int) : Ctr Tryz.prog 130 [.nilIface, .iface 26 (.int .i64 k)] [] (fun _ => True) (fun v M => v = .bool false ∧ M = []) :=
  Ctr.same fun x w _ _ => is_nil9 k w
theorem isFail_c (b : Nat) (s : Value) (e k : Int) : Ctr Tryz.prog 130 [.iface 176 (.pointer (some ⟨b, 0, none⟩)), .iface 26 (.int .i64 k)] [bk b 178 [s, .iface 26 (.int .i64 e)]] (fun _ => True) (fun v M => v = .bool (decide (e = k)) ∧ M = [bk b 178 [s, .iface 26 (.int .i64 e)]]) :=
  Ctr.same fun x w hs _ => is_failed9 b 0 e k w (cell_bk (.head _) rfl hs)
theorem full_c (e : Int) (v : Value) (H : List Assn) (hE : ErrV e v H) : Ctr Tryz.prog 88 [v] H (fun _ => True) (fun u M => u = .bool (decide (e = 10 ∨ e = 3)) ∧ M = H) := by
  rcases hE with ⟨rfl, rfl, rfl⟩ | ⟨h0, b, s, rfl, rfl⟩
  · rw [decide_eq_false (by omega)]
    refine Ctr.intro Tryz.func88 rfl Tryz.ntmps88 rfl fun x w hp => ?_
    refine wk ?_
    refine CX.ps (PS.mkIf (by kernel_rfl)) ?_
    refine CX.callA (isNil_c 10) ?_
    rintro _ _ ⟨rfl, rfl⟩
    refine wk ?_
    refine CX.ps (PS.mkIf (by kernel_rfl)) ?_
    refine CX.callA (isNil_c 3) ?_
    rintro _ _ ⟨rfl, rfl⟩
    refine wk ?_
    ((apply CQ.end1; (· rfl); (· exact .tmp rfl)); (· exact ⟨rfl, rfl⟩); (· exact selA))
  · refine Ctr.intro Tryz.func88 rfl Tryz.ntmps88 rfl fun x w hp => ?_
    refine wk ?_
    refine CX.ps (PS.mkIf (by kernel_rfl)) ?_
    refine CX.callA (isFail_c b s e 10) ?_
    rintro _ _ ⟨rfl, rfl⟩
    by_cases h : e = 10
    · rw [decide_eq_true h, decide_eq_true (Or.inl h)]
      refine wk ?_
      ((apply CQ.end1; (· rfl); (· exact .tmp rfl)); (· exact ⟨rfl, rfl⟩); (· exact selA))
    · rw [decide_eq_false h]
      refine wk ?_
      refine CX.ps (PS.mkIf (by kernel_rfl)) ?_
      refine CX.callA (isFail_c b s e 3) ?_
      rintro _ _ ⟨rfl, rfl⟩
      rw [show decide (e = 10 ∨ e = 3) = decide (e = 3) from by simp [h]]
      refine wk ?_
      ((apply CQ.end1; (· rfl); (· exact .tmp rfl)); (· exact ⟨rfl, rfl⟩); (· exact selA))
/-- What the program's one variable holds: the type of the interface error. -/
def errG (x : PH) : Prop := ∃ cs t fr, x 0 = some (.cells cs t fr) ∧ cs[0]? = some (.iface 210 (.agg #[.pointer (some ⟨1, 87, none⟩)]))
theorem errG.cell {x : PH} {L M : List Assn} {w : World} (p : Pick (exact x) L M) (hg : errG x) (hs : Sep L w.ph) : w.cell? ⟨0, 0, none⟩ = some (.iface 210 (.agg #[.pointer (some ⟨1, 87, none⟩)])) := by
  obtain ⟨cs, t, fr, h1, h2⟩ := hg
  have h := p.ok hs _ _ h1
  simp only [World.ph] at h
  simp [World.cell?, h, h2]
theorem errG_ex {x : PH} {L M : List Assn} (p : Pick (exact x) L M) (hg : errG x) : ∀ y, Sep L y → errG y := fun y hy => by
  obtain ⟨cs, t, fr, h1, h2⟩ := hg
  exact ⟨cs, t, fr, p.ok hy _ _ h1, h2⟩
theorem asFail_c (b t : Nat) (s : Value) (e : Int) : Ctr Tryz.prog 91 [.iface 176 (.pointer (some ⟨b, 0, none⟩)), .iface 140 (.pointer (some ⟨t, 0, none⟩))] [bk b 178 [s, .iface 26 (.int .i64 e)], bk t 26 [.int .i64 0]] errG
    (fun v M => v = .bool true ∧ M = [bk b 178 [s, .iface 26 (.int .i64 e)], bk t 26 [.int .i64 e]]) := Ctr.ofC fun x w hs hp => by
  have ht : w.cell? ⟨t, 0, none⟩ = some (.int .i64 0) := cell_bk (cs := [.int .i64 0]) (.tail (.head _)) rfl hs
  refine (as_failed9 b 0 e ⟨t, 0, none⟩ (.int .i64 0) w (errG.cell (.tail (.tail (.head _))) hp hs) (cell_bk (.head _) rfl hs) ht (frozen_bk (.tail (.head _)) hs)).mono fun ev w' ⟨a, b'⟩ => ?_
  refine ⟨_, _, ⟨rfl, rfl⟩, a, ?_, ?_⟩
  · rw [b']
    have h1 := (((hs.alloc 140 [.pointer (some ⟨t, 0, none⟩)]).alloc 185 [.pointer (some ⟨1, 140, none⟩), .pointer (some ⟨w.heap.size, 0, none⟩), .int .u64 150]).alloc 185 [.pointer (some ⟨1, 140, none⟩), .pointer (some ⟨w.heap.size, 0, none⟩), .int .u64 150]).alloc 26 [.int .i64 e]
    exact (Sep.setCell (o := 0) (cs := [.int .i64 0]) (v := .int .i64 e) (.tail (.tail (.tail (.tail (.tail (.head _)))))) h1).tail.tail.tail.tail
  · rw [b']
    exact ⟨rfl, rfl, rfl⟩
theorem told_c (e : Int) (v : Value) (H : List Assn) (hE : ErrV e v H) : Ctr Tryz.prog 48 [v] H errG (fun u M => u = .int .i64 e ∧ M = H) := by
  rcases hE with ⟨rfl, rfl, rfl⟩ | ⟨h0, b, s, rfl, rfl⟩
  · refine Ctr.intro Tryz.func48 rfl Tryz.ntmps48 rfl fun x w hp => ?_
    refine wk ?_
    (refine CX.allocA ?_; intro t)
    refine wk ?_
    refine CX.ps (PS.eqlIfT Tryz.underlying87) ?_
    refine wk ?_
    ((apply CQ.end1; (· rfl); (· exact .tmp rfl)); (· exact ⟨rfl, rfl⟩); (· exact selA))
  · refine Ctr.intro Tryz.func48 rfl Tryz.ntmps48 rfl fun x w hp => ?_
    refine wk ?_
    (refine CX.allocA ?_; intro t)
    refine wk ?_
    refine CX.ps (PS.eqlIfF Tryz.underlying87) ?_
    refine wk ?_
    refine CX.ps (PS.mkIf (by kernel_rfl)) ?_
    refine CX.callA (asFail_c b t s e) ?_ (hpre := by exact errG_ex (by first | exact pickA | exact updA) hp)
    rintro _ _ ⟨rfl, rfl⟩
    refine wk ?_
    ((apply CQ.end1; (· rfl); (· exact .tmp rfl)); (· exact ⟨rfl, rfl⟩); (· exact selA))
end Go.Proofs.YtlckhaodecdbbaaGreatDoor
/-! The journal's methods (Append, Replace, Batches, Room, Head), in the program. -/
namespace Go.Proofs.YtlckhaodecdbbaaGreatDoor
open Go.Cx
attribute [local irreducible] Go.Cx.CX Go.Cx.CC Go.Cx.CQ Go.Cx.PS Go.Cx.Ctr Go.Cx.CH
set_option maxRecDepth 10000
theorem jroom_c (p d : Nat) (J : JM) (hbk : J.h.blocks < 4294967296) (D : DS) {N : Nat} (h : D.wf N) : Ctr Tryz.prog 69 [.pointer (some ⟨p, 0, none⟩)] [bk p 123 (jrc d J), disk d D] (fun _ => True) (fun v M => v = .int .i64 ((bankM D : Int) - (J.h.blocks : Int)) ∧ M = [bk p 123 (jrc d J), disk d D]) := by
  have hbank : bankM D ≤ 2048 := by have := h.hi; unfold bankM; omega
  refine Ctr.intro Tryz.func69 rfl Tryz.ntmps69 rfl fun x w hp => ?_
  refine wk ?_
  refine CX.callA (jnone_c p d J) ?_
  rintro _ _ ⟨rfl, rfl⟩
  refine wk ?_
  refine CC.draw [(0, 0), (2, 0), (3, 0), (4, 0), (5, 0), (6, 1), (7, 0), (1, 2), (8, 0), (9, 0)] mixed rfl (by kernel_rfl) (by kernel_rfl) [bk p 123 (jrc d J)] ?_
  refine hwk ?_
  refine CH.chain rfl fun K hK => ?_
  refine CX.callA (jbank_c p d J D h) ?_
  rintro _ _ ⟨rfl, rfl⟩
  (refine CX.nil ?_; refine CQ.thenK ?_; apply hK; (· exact selA); clear hK K)
  refine hwk ?_
  refine wk ?_
  ((apply CQ.end1; (· rfl); (· exact .tmp rfl)); (· exact ⟨rfl, rfl⟩); (· exact selA))
theorem jbat_c (p d : Nat) (J : JM) (hb : J.h.bank < 256) (hbt : J.h.batches < 4294967296) (hbk : J.h.blocks < 4294967296) (D : DS) {N : Nat} (h : D.wf N) (hN : N < 1000000) : Ctr Tryz.prog 52 [.pointer (some ⟨p, 0, none⟩)] [bk p 123 (jrc d J), disk d D] (fun _ => True)
    (fun v M => ∃ a c l, l.map SlB.b = (readM J D).1 ∧ v = .slice a l.length c ∧ M = [bk p 123 (jrc d J), disk d D, bsA a l] ∧ (a = none → l.length = 0 ∧ c = 0) ∧ l.length ≤ c) := by
  refine Ctr.intro Tryz.func52 rfl Tryz.ntmps52 rfl fun x w hp => ?_
  refine wk ?_
  refine CX.callA (jnone_c p d J) ?_
  rintro _ _ ⟨rfl, rfl⟩
  refine wk ?_
  refine CX.callA (jread_c p d J hb hbt hbk D h hN) ?_
  rintro _ _ ⟨a, c, l, hl, rfl, rfl, hn, hc'⟩
  refine wk ?_
  (apply CQ.end1; (· rfl); (· exact .tmp rfl))
  · exact ⟨a, c, l, hl, rfl, rfl, hn, hc'⟩
  · exact selA
theorem jasked_c (p d : Nat) (J : JM) (D : DS) (b : Blk) (hb : b.length ≤ 9223372036854775806) (a : Option Addr) (cap : Nat) (hn : a = none → b.length = 0 ∧ cap = 0) : Ctr Tryz.prog 128 [.pointer (some ⟨p, 0, none⟩), .slice a b.length cap] [bk p 123 (jrc d J), disk d D] (fun x => rdx a b.length (cb b) x)
    (fun v M => ∃ a' c', v = .tuple #[.slice a' (askedM D b).1.length c', .int .i64 (askedM D b).2] ∧ M = [bk p 123 (jrc d J), disk d D, own 59 128 a' (askedM D b).1.length c' (flat (askedM D b).1)]) := by
  refine Ctr.intro Tryz.func128 rfl Tryz.ntmps128 rfl fun x w hp => ?_
  refine wk ?_
  refine CX.callA (jnone_c p d J) ?_
  rintro _ _ ⟨rfl, rfl⟩
  by_cases h1 : 1048576 < b.length
  · rw [show askedM D b = ([], 3) by unfold askedM; rw [if_pos h1]]
    refine wk ?_
    refine CQ.ownNil 59 128 ?_
    (apply CQ.end2; (· rfl); (· exact .tmp rfl); (· exact .tmp rfl))
    · exact ⟨none, 0, rfl, rfl⟩
    · exact selA
  cases hd : D.dark with
  | true =>
    rw [show askedM D b = ([], 9) by unfold askedM; rw [if_neg h1, if_pos hd]]
    refine wk ?_
    refine CX.callA (dark_c d D) ?_
    rw [hd]
    rintro _ _ ⟨rfl, rfl⟩
    refine wk ?_
    refine CQ.ownNil 59 128 ?_
    (apply CQ.end2; (· rfl); (· exact .tmp rfl); (· exact .tmp rfl))
    · exact ⟨none, 0, rfl, rfl⟩
    · exact selA
  | false =>
    rw [show askedM D b = (cutB b, 0) by unfold askedM; rw [if_neg h1, if_neg (by simp [hd])]]
    refine wk ?_
    refine CX.callA (dark_c d D) ?_
    rw [hd]
    rintro _ _ ⟨rfl, rfl⟩
    refine wk ?_
    refine CX.callA (cut_c b (by omega) a cap hn) ?_ (hpre := by exact rdx_ex (by first | exact pickA | exact updA) hp)
    rintro _ _ ⟨a', c', rfl, rfl⟩
    refine wk ?_
    (apply CQ.end2; (· rfl); (· exact .tmp rfl); (· exact .tmp rfl))
    · exact ⟨a', c', rfl, rfl⟩
    · exact selA
end Go.Proofs.YtlckhaodecdbbaaGreatDoor
/-! The journal's methods (Append, Replace, Make, Open), in the program. -/
namespace Go.Cx
theorem lay_wf_le {N n : Nat} {D : DS} (h : D.wf (N + n + 3)) (k : n ≤ 2048) : D.wf (N + 2060) := wf_up h (by omega)
theorem newH_WBmay {A B : Blk} (hA : WB A) (hB : WB B) (h : (newH A B).2.2 = 0) : (newH A B).2.1.may := by
  rw [newH_eq] at h ⊢
  split at h
  · cases h
  · rename_i h1
    rw [if_neg h1]
    have g : ∀ (C : Blk), WB C → (getH C).2.2 = 0 → (getH C).2.1.may := fun C hC h => (put_get hC h).2.2.1
    have g0 : ∀ (C : Blk), (getH C).2.2 ≠ 0 → (getH C).1 = 0 := fun C h => by
      rcases get_err C with e | e
      · exact absurd e h
      · exact e.1
    split
    · rename_i h2
      by_cases e : (getH B).2.2 = 0
      · exact g B hB e
      · rw [g0 B e] at h2; omega
    · rename_i h2
      by_cases e : (getH A).2.2 = 0
      · exact g A hA e
      · by_cases e2 : (getH B).2.2 = 0
        · have := (put_get hB e2).1
          rw [g0 A e] at h2; omega
        · exact absurd ⟨e, e2⟩ h1
end Go.Cx
namespace Go.Proofs.YtlckhaodecdbbaaGreatDoor
open Go.Cx
attribute [local irreducible] Go.Cx.CX Go.Cx.CC Go.Cx.CQ Go.Cx.PS Go.Cx.Ctr Go.Cx.CH
set_option maxRecDepth 10000
def DoneP (p d : Nat) (N : Nat) (r : Int × JM × DS) (v : Value) (M : List Assn) : Prop := v = .int .i64 r.1 ∧ M = [bk p 123 (jrc d r.2.1), disk d r.2.2] ∧ r.2.2.wf (N + 2060)
theorem japp_c (p d : Nat) (J : JM) (hJ : J.n < 4611686018427387904) (hm : J.h.may) (D : DS) {N : Nat} (h : D.wf N) (hN : N < 990000) (b : Blk) (hb : b.length ≤ 9223372036854775806) (a : Option Addr) (cap : Nat) (hn : a = none → b.length = 0 ∧ cap = 0) :
    Ctr Tryz.prog 87 [.pointer (some ⟨p, 0, none⟩), .slice a b.length cap] [bk p 123 (jrc d J), disk d D] (fun x => rdx a b.length (cb b) x) (DoneP p d N (appendM J D b)) := by
  unfold DoneP
  have hbank : bankM D ≤ 2048 := by have := h.hi; unfold bankM; omega
  obtain ⟨m1, m2, m3⟩ := hm
  have hmul : J.h.bank * bankM D ≤ 2 * 2048 := Nat.mul_le_mul (by omega) hbank
  have hfst : firstM D J.h.bank ≤ 4098 := by unfold firstM; omega
  refine Ctr.intro Tryz.func87 rfl Tryz.ntmps87 rfl fun x w hp => ?_
  refine wk ?_
  refine CX.callA (jasked_c p d J D b hb a cap hn) ?_ (hpre := by exact rdx_ex (by first | exact pickA | exact updA) hp)
  have hW := asked_WB D b
  have hall := asked_len D b
  unfold appendM
  generalize askedM D b = s at *
  rintro _ _ ⟨a', c', rfl, rfl⟩
  by_cases he : s.2 = 0
  rotate_left
  · rw [if_pos he]
    refine wk ?_
    (apply CQ.end1; (· rfl); (· exact .tmp rfl))
    · exact ⟨rfl, rfl, wf_up h (by omega)⟩
    · exact selA
  rw [if_neg (by simp [he]), he]
  refine wk ?_
  refine CX.callA (jroom_c p d J (by omega) D h) ?_
  rintro _ _ ⟨rfl, rfl⟩
  by_cases h1 : (bankM D : Int) - (J.h.blocks : Int) < (s.1.length : Int)
  · rw [if_pos h1]
    refine wk ?_
    (apply CQ.end1; (· rfl); (· exact .tmp rfl))
    · exact ⟨rfl, rfl, wf_up h (by omega)⟩
    · exact selA
  rw [if_neg h1]
  refine wk ?_
  (apply CX.ps; (· apply PS.loadG (vs := hc J.h); (· rfl); (· rfl); (· exact CellsAt.pick (by first | exact pickA | exact updA) rfl); (· rfl)))
  refine CX.allocZ (hc HdM.z) ?_ (hv := rfl)
  intro q7
  (refine CX.storeB (vs := hc J.h) ?_ ?_ ?_ ?_; (· rfl); (· rfl); (· exact one_all rfl))
  refine wk ?_
  refine CC.draw [(0, 0), (1, 0), (2, 1), (4, 0), (5, 1), (6, 0), (3, 2), (7, 0), (8, 0)] mixed rfl (by kernel_rfl) (by kernel_rfl) [bk q7 121 (hc J.h)] ?_
  refine hwk ?_
  refine CH.chain rfl fun K hK => ?_
  refine CX.callA (jfirst_c p d J D J.h.bank (by omega) h) ?_
  rintro _ _ ⟨rfl, rfl⟩
  (refine CX.nil ?_; refine CQ.thenK ?_; apply hK; (· exact selA); clear hK K)
  refine hwk ?_
  refine wk ?_
  (apply CX.ps; (· apply PS.loadG (vs := hc ⟨J.h.bank, J.h.blocks + s.1.length, J.h.batches + 1⟩); (· rfl); (· rfl); (· exact CellsAt.all (by first | exact pickA | exact updA)); (· rfl)))
  have hlay := jlay_c p d J hJ (firstM D J.h.bank + J.h.blocks) (by omega) s.1 hW (by omega) a' c' ⟨J.h.bank, J.h.blocks + s.1.length, J.h.batches + 1⟩ ⟨by dsimp only; omega, by dsimp only; omega, by dsimp only; omega⟩ D h (by omega)
  refine CX.callA (hlay) ?_ (hpre := by exact rdx_RdS (RdS.own (by first | exact pickA | exact updA) (one_flat _) (by omega)))
  rintro _ _ ⟨rfl, rfl, hwf⟩
  refine wk ?_
  (apply CQ.end1; (· rfl); (· exact .tmp rfl))
  · exact ⟨rfl, rfl, lay_wf_le hwf (by omega)⟩
  · exact selA
theorem jrep_c (p d : Nat) (J : JM) (hJ : J.n < 4611686018427387904) (hm : J.h.may) (D : DS) {N : Nat} (h : D.wf N) (hN : N < 990000) (b : Blk) (hb : b.length ≤ 9223372036854775806) (a : Option Addr) (cap : Nat) (hn : a = none → b.length = 0 ∧ cap = 0) :
    Ctr Tryz.prog 90 [.pointer (some ⟨p, 0, none⟩), .slice a b.length cap] [bk p 123 (jrc d J), disk d D] (fun x => rdx a b.length (cb b) x) (DoneP p d N (replaceM J D b)) := by
  unfold DoneP
  have hbank : bankM D ≤ 2048 := by have := h.hi; unfold bankM; omega
  obtain ⟨m1, m2, m3⟩ := hm
  have hmul : (1 - J.h.bank) * bankM D ≤ 2 * 2048 := Nat.mul_le_mul (by omega) hbank
  have hfst : firstM D (1 - J.h.bank) ≤ 4098 := by unfold firstM; omega
  refine Ctr.intro Tryz.func90 rfl Tryz.ntmps90 rfl fun x w hp => ?_
  refine wk ?_
  refine CX.callA (jasked_c p d J D b hb a cap hn) ?_ (hpre := by exact rdx_ex (by first | exact pickA | exact updA) hp)
  have hW := asked_WB D b
  have hall := asked_len D b
  unfold replaceM
  generalize askedM D b = s at *
  rintro _ _ ⟨a', c', rfl, rfl⟩
  by_cases he : s.2 = 0
  rotate_left
  · rw [if_pos he]
    refine wk ?_
    (apply CQ.end1; (· rfl); (· exact .tmp rfl))
    · exact ⟨rfl, rfl, wf_up h (by omega)⟩
    · exact selA
  rw [if_neg (by simp [he]), he]
  refine wk ?_
  refine CX.callA (jbank_c p d J D h) ?_
  rintro _ _ ⟨rfl, rfl⟩
  by_cases h1 : bankM D < s.1.length
  · rw [if_pos h1]
    refine wk ?_
    (apply CQ.end1; (· rfl); (· exact .tmp rfl))
    · exact ⟨rfl, rfl, wf_up h (by omega)⟩
    · exact selA
  rw [if_neg h1]
  refine wk ?_
  rw [show (1 : Int) - (J.h.bank : Int) = ((1 - J.h.bank : Nat) : Int) by omega]
  refine wk ?_
  refine CX.callA (jfirst_c p d J D (1 - J.h.bank) (by omega) h) ?_
  rintro _ _ ⟨rfl, rfl⟩
  refine wk ?_
  refine CX.ps (PS.build (vs := [(0, .int .u8 ((1 - J.h.bank : Nat) : Int)), (1, .int .u32 (s.1.length : Int)), (2, .int .u32 1)]) (out := hc ⟨1 - J.h.bank, s.1.length, 1⟩) rfl rfl rfl) ?_
  have hlay := jlay_c p d J hJ (firstM D (1 - J.h.bank)) (by omega) s.1 hW (by omega) a' c' ⟨1 - J.h.bank, s.1.length, 1⟩ ⟨by dsimp only; omega, by dsimp only; omega, by dsimp only; omega⟩ D h (by omega)
  refine CX.callA (hlay) ?_ (hpre := by exact rdx_RdS (RdS.own (by first | exact pickA | exact updA) (one_flat _) (by omega)))
  rintro _ _ ⟨rfl, rfl, hwf⟩
  refine wk ?_
  (apply CQ.end1; (· rfl); (· exact .tmp rfl))
  · exact ⟨rfl, rfl, lay_wf_le hwf (by omega)⟩
  · exact selA
def MadeP (d N : Nat) (D : DS) (v : Value) (M : List Assn) : Prop :=
  (D.dark = true → v = .tuple #[.pointer none, .int .i64 9] ∧ M = [disk d D]) ∧
  (D.dark = false → (makeM D).2.2.wf (N + 2060) ∧ ((makeM D).1 ≠ 0 → v = .tuple #[.pointer none, .int .i64 (makeM D).1] ∧ M = [disk d (makeM D).2.2]) ∧
    ((makeM D).1 = 0 → ∃ p, v = .tuple #[.pointer (some ⟨p, 0, none⟩), .int .i64 0] ∧ M = [bk p 123 (jrc d (makeM D).2.1), disk d (makeM D).2.2]))
theorem jmake_c (d : Nat) (D : DS) {N : Nat} (h : D.wf N) (hN : N < 990000) : Ctr Tryz.prog 37 [.pointer (some ⟨d, 0, none⟩)] [disk d D] (fun _ => True) (MadeP d N D) := by
  have hlo := h.lo
  unfold MadeP
  refine Ctr.intro Tryz.func37 rfl Tryz.ntmps37 rfl fun x w hp => ?_
  refine wk ?_
  refine CX.callA (blocks_c d D) ?_
  rintro _ _ ⟨rfl, rfl⟩
  refine wk ?_
  refine CX.callA (dark_c d D) ?_
  cases hd : D.dark with
  | true =>
    rintro _ _ ⟨rfl, rfl⟩
    refine wk ?_
    (apply CQ.end2; (· rfl); (· exact .tmp rfl); (· exact .tmp rfl))
    · exact ⟨fun _ => ⟨rfl, rfl⟩, (fun h => by cases h)⟩
    · exact selA
  | false =>
    rintro _ _ ⟨rfl, rfl⟩
    refine wk ?_
    refine CX.ps (PS.build (vs := [(0, .pointer (some ⟨d, 0, none⟩))]) (out := jrc d ⟨0, HdM.z⟩) rfl rfl rfl) ?_
    (refine CX.boxA (vs := jrc d ⟨0, HdM.z⟩) ?_; intro p)
    refine wk ?_
    refine CX.makeSl (l := 2) rfl rfl rfl rfl (by decide) fun q => ?_
    have e0 : (madeCells (Value.agg (List.replicate 128 (.int .u8 0) : List Value).toArray).cells (2 * 128)).toList = flat [zblk, zblk] := by
      have h1 := made_rep (.int .u8 0) 128 (2 * 128) (by omega)
      have h2 := flat_zs 2
      simp only [Value.cells]
      rw [h1, ← h2]; rfl
    rw [e0]
    (apply CX.ps; (· apply PS.build (vs := []) (out := hc HdM.z); (· rfl); (· rfl); (· rfl)))
    have hlay := jlay_c p d ⟨0, HdM.z⟩ (by decide) 0 (by decide) [zblk, zblk] (fun b hb => by simp at hb; subst hb; exact WB_z) (by decide) (some ⟨q, 0, none⟩) 2 HdM.z ⟨by decide, by decide, by decide⟩ D h (by show N + 2 + 3 < 999990; omega)
    refine CX.callA (hlay) ?_ (hpre := by exact rdx_RdS (RdS.own (by first | exact pickA | exact updA) (one_flat _) (by decide)))
    rintro _ _ ⟨rfl, rfl, hwf⟩
    have hm : makeM D = layM ⟨0, HdM.z⟩ 0 [zblk, zblk] HdM.z D := rfl
    rw [hm]
    generalize layM ⟨0, HdM.z⟩ 0 [zblk, zblk] HdM.z D = r at *
    by_cases he : r.1 = 0
    · rw [he]
      refine wk ?_
      (apply CQ.end2; (· rfl); (· exact .tmp rfl); (· exact .tmp rfl))
      · exact ⟨(fun h => by cases h), fun _ => ⟨lay_wf_le hwf (by decide), fun h => absurd rfl h, fun _ => ⟨p, rfl, rfl⟩⟩⟩
      · exact selA
    · refine wk ?_
      (apply CQ.end2; (· rfl); (· exact .tmp rfl); (· exact .tmp rfl))
      · exact ⟨(fun h => by cases h), fun _ => ⟨lay_wf_le hwf (by decide), fun _ => ⟨rfl, rfl⟩, fun h => absurd h he⟩⟩
      · exact selA
def OpenP (d : Nat) (D : DS) (v : Value) (M : List Assn) : Prop :=
  ((openM D).1 ≠ 0 → v = .tuple #[.pointer none, .int .i64 (openM D).1] ∧ M = [disk d D]) ∧
  ((openM D).1 = 0 → ∃ p, v = .tuple #[.pointer (some ⟨p, 0, none⟩), .int .i64 0] ∧ M = [bk p 123 (jrc d (openM D).2), disk d D])
theorem jopen_c (d : Nat) (D : DS) {N : Nat} (h : D.wf N) (hN : N < 990000) : Ctr Tryz.prog 51 [.pointer (some ⟨d, 0, none⟩)] [disk d D] (fun _ => True) (OpenP d D) := by
  have hlo := h.lo
  have hw1 : WB (bothM D).1 := by unfold bothM; split <;> exact read_WB h 0
  have hw2 : WB (bothM D).2.1 := by
    unfold bothM; split
    · exact WB_z
    · exact read_WB h 1
  unfold OpenP
  refine Ctr.intro Tryz.func51 rfl Tryz.ntmps51 rfl fun x w hp => ?_
  refine wk ?_
  refine CX.callA (blocks_c d D) ?_
  rintro _ _ ⟨rfl, rfl⟩
  refine wk ?_
  refine CX.ps (PS.build (vs := [(0, .pointer (some ⟨d, 0, none⟩))]) (out := jrc d ⟨0, HdM.z⟩) rfl rfl rfl) ?_
  (refine CX.boxA (vs := jrc d ⟨0, HdM.z⟩) ?_; intro p)
  refine wk ?_
  refine CX.callA (jboth_c p d ⟨0, HdM.z⟩ D h (by omega)) ?_
  unfold openM
  generalize bothM D = o at *
  rintro _ _ ⟨rfl, rfl⟩
  refine wk ?_
  refine CX.allocZ (cb zblk) ?_
  intro q5
  refine CX.allocZ (cb zblk) ?_
  intro q6
  (apply CX.storeAll; (· rfl); (· rfl); (· rfl); (· first | exact pickA | exact updA); (· exact hw1.len); (· exact WB_z.len); (· exact one_cb _))
  (apply CX.storeAll; (· rfl); (· rfl); (· rfl); (· first | exact pickA | exact updA); (· exact hw2.len); (· exact WB_z.len); (· exact one_cb _))
  by_cases he : o.2.2 = 0
  rotate_left
  · rw [if_pos he]
    refine wk ?_
    (apply CQ.end2; (· rfl); (· exact .tmp rfl); (· exact .tmp rfl))
    · exact ⟨fun _ => ⟨rfl, rfl⟩, fun h => absurd h he⟩
    · exact selA
  rw [if_neg (by simp [he]), he]
  refine wk ?_
  (apply CX.ps; (· apply PS.loadG (vs := cb o.1); (· rfl); (· rfl); (· exact CellsAt.all (by first | exact pickA | exact updA)); (· exact hw1.len)))
  (apply CX.ps; (· apply PS.loadG (vs := cb o.2.1); (· rfl); (· rfl); (· exact CellsAt.all (by first | exact pickA | exact updA)); (· exact hw2.len)))
  refine CX.callA (hnewest_c o.1 o.2.1 hw1 hw2) ?_
  have hmay := newH_WBmay hw1 hw2
  generalize newH o.1 o.2.1 = u at *
  rintro _ _ ⟨rfl, rfl⟩
  refine wk ?_
  have e5 : setL ((jrc d ⟨0, HdM.z⟩).set (0 + 1) (.int .u64 (u.1 : Int))) (0 + 2) (Value.agg (hc u.2.1).toArray).cells.toList = jrc d ⟨u.1, u.2.1⟩ := by
    simp [jrc, setL, hc, Value.cells]
  refine CX.storeC (v := .agg (hc u.2.1).toArray) (cs := (jrc d ⟨0, HdM.z⟩).set (0 + 1) (.int .u64 (u.1 : Int))) (bt := 123) rfl rfl rfl rfl (one_all rfl) (by first | exact pickA | exact updA) (by simp [jrc, hc, Value.cells]) ?_
  rw [e5]
  by_cases h1 : u.2.2 = 0
  rotate_left
  · rw [if_pos (.inl h1)]
    refine wk ?_
    (apply CQ.end2; (· rfl); (· exact .tmp rfl); (· exact .tmp rfl))
    · exact ⟨fun _ => ⟨rfl, rfl⟩, (fun h => by cases h)⟩
    · exact selA
  by_cases h2 : 2305843009213693952 < u.1
  · rw [if_pos (.inr h2), h1]
    refine wk ?_
    dsimp only
    refine wk ?_
    (apply CQ.end2; (· rfl); (· exact .tmp rfl); (· exact .tmp rfl))
    · exact ⟨fun _ => ⟨rfl, rfl⟩, (fun h => by cases h)⟩
    · exact selA
  rw [if_neg (by rintro (h | h) <;> contradiction), h1]
  obtain ⟨m1, m2, m3⟩ := hmay h1
  have hrd := jread_c p d ⟨u.1, u.2.1⟩ (by dsimp only; omega) (by dsimp only; omega) (by dsimp only; omega) D h (by omega)
  refine wk ?_
  dsimp only
  refine wk ?_
  refine CX.callA (hrd) ?_
  unfold ReadP
  generalize readM ⟨u.1, u.2.1⟩ D = r at *
  rintro _ _ ⟨a8, c8, l8, hl8, rfl, rfl, hn8, hc8⟩
  by_cases h3 : r.2 = 0
  · rw [h3]
    refine wk ?_
    (apply CQ.end2; (· rfl); (· exact .tmp rfl); (· exact .tmp rfl))
    · exact ⟨fun h => absurd rfl h, fun _ => ⟨p, rfl, rfl⟩⟩
    · exact selA
  · refine wk ?_
    (apply CQ.end2; (· rfl); (· exact .tmp rfl); (· exact .tmp rfl))
    · exact ⟨fun _ => ⟨rfl, rfl⟩, fun h => absurd h h3⟩
    · exact selA
end Go.Proofs.YtlckhaodecdbbaaGreatDoor
/-! The statements' own doings of layer 7 (lives), and JournalNil, in the program. -/
namespace Go.Cx
/-- A journal on a disk at rest, the power not to be cut. -/
structure GoodJ (n N : Nat) (D : DS) (J : JM) (bs : List Blk) : Prop where
  wf : D.wf N
  calm : Calm D
  left : D.left = 0
  len : D.sure.length = n
  js : JSt D.sure J bs
theorem GoodJ.bank {n N : Nat} {D : DS} {J : JM} {bs : List Blk} (g : GoodJ n N D J bs) : bankM D = (n - 2) / 2 := by unfold bankM; rw [g.len]
theorem GoodJ.read {n N : Nat} {D : DS} {J : JM} {bs : List Blk} (g : GoodJ n N D J bs) : readM J D = (bs, 0) := g.js.read g.calm
theorem GoodJ.up {n N M : Nat} {D : DS} {J : JM} {bs : List Blk} (g : GoodJ n N D J bs) (h : N ≤ M) : GoodJ n M D J bs := ⟨wf_up g.wf h, g.calm, g.left, g.len, g.js⟩
theorem bits_small {J : JM} (m : J.h.may) : J.h.bank < 256 ∧ J.h.batches < 4294967296 ∧ J.h.blocks < 4294967296 := by
  obtain ⟨a, b, c⟩ := m; omega
end Go.Cx
namespace Go.Proofs.YtlckhaodecdbbaaGreatDoor
open Go.Cx
attribute [local irreducible] Go.Cx.CX Go.Cx.CC Go.Cx.CQ Go.Cx.PS Go.Cx.Ctr Go.Cx.CH
set_option maxRecDepth 10000
theorem jmake_new (d n : Nat) (h1 : 64 ≤ n) (h2 : n ≤ 4096) : Ctr Tryz.prog 37 [.pointer (some ⟨d, 0, none⟩)] [disk d (DS.new n)] (fun _ => True)
    (fun v M => ∃ p D, v = .tuple #[.pointer (some ⟨p, 0, none⟩), .int .i64 0] ∧ M = [bk p 123 (jrc d ⟨1, HdM.z⟩), disk d D] ∧ GoodJ n 2060 D ⟨1, HdM.z⟩ []) := by
  obtain ⟨m1, m2, m3, m4, m5, m6⟩ := make_new (n := n) h1 h2
  refine Ctr.conseq (jmake_c d (DS.new n) (new_wf h1 h2) (by omega)) fun v M hv => ?_
  unfold MadeP at hv
  obtain ⟨hw, -, hp⟩ := hv.2 rfl
  obtain ⟨p, rfl, rfl⟩ := hp m1
  rw [m2]
  exact ⟨_, ⟨p, _, rfl, rfl, by rw [Nat.zero_add] at hw; exact hw, m3, m4, m5, m6⟩, fun x h hs => hs⟩
end Go.Proofs.YtlckhaodecdbbaaGreatDoor
/-! The statement JournalRoom, in the program. -/
namespace Go.Cx
/-- A batch that is laid: how, and its bytes. -/
structure LayV where
  all : Bool
  s : SlB
def LayV.cells (r : LayV) : List Value := [.bool r.all, .slice r.s.a r.s.b.length r.s.c]
def lyAt (a : Option Addr) (l : List LayV) (x : PH) : Prop := rdx a (l.length * 2) (rows LayV.cells l) x ∧ ∀ r ∈ l, r.s.ok x
theorem ly_len (l : List LayV) : ∀ y ∈ l, (LayV.cells y).length = 2 := fun _ _ => rfl
theorem lyAt.cell {L L' : List Assn} {x : PH} {g off i : Nat} {l : List LayV} {v : Value} (h : lyAt (some ⟨g, off, none⟩) l x) (p : Pick (exact x) L L') (hi : i < l.length) (j : Nat) (hv : (l[i]).cells[j]? = some v) : CellAt L g (off + i * 2 + j) v :=
  fun y hy => by
    obtain ⟨cs, t, fr, e, hc⟩ := CellsAt.row p h.1 (by omega) (ly_len l) hi y hy
    exact ⟨cs, t, fr, e, hc j v hv⟩
end Go.Cx
namespace Go.Proofs.YtlckhaodecdbbaaGreatDoor
open Go.Cx
attribute [local irreducible] Go.Cx.CX Go.Cx.CC Go.Cx.CQ Go.Cx.PS Go.Cx.Ctr Go.Cx.CH
set_option maxRecDepth 10000
end Go.Proofs.YtlckhaodecdbbaaGreatDoor
/-! The statement JournalCuts, in the program. -/
namespace Go.Cx
/-- A journal on a disk at rest, the power to be cut at some step, or at none. -/
structure GoodC (n N : Nat) (D : DS) (J : JM) (bs : List Blk) : Prop where
  wf : D.wf N
  calm : Calm D
  len : D.sure.length = n
  js : JSt D.sure J bs
theorem GoodC.up {n N M : Nat} {D : DS} {J : JM} {bs : List Blk} (g : GoodC n N D J bs) (h : N ≤ M) : GoodC n M D J bs := ⟨wf_up g.wf h, g.calm, g.len, g.js⟩
theorem Calm.arm {D : DS} (h : Calm D) (hl : 64 ≤ D.sure.length) (K : Nat) : D.arm (K : Int) = (0, { D with left := (K : Int) }) := by
  have := h.litAt (k := 0) (by omega)
  unfold DS.arm
  rw [show D.lit 0 = 0 from this]
  simp only [ne_eq, not_true_eq_false, if_false]
  rw [if_neg (by omega)]
theorem GoodC.arm {n N : Nat} {D : DS} {J : JM} {bs : List Blk} (g : GoodC n N D J bs) (K : Nat) (hK : K < 1000) : GoodC n N { D with left := (K : Int) } J bs := by
  have w := g.wf
  exact ⟨⟨w.lo, w.hi, w.wb, w.lb, by simp, by simp; omega, w.steps, w.loose⟩, ⟨g.calm.lit, g.calm.loose⟩, g.len, g.js⟩
theorem out_crash {n N : Nat} {D' : DS} {J : JM} {bs : List Blk} (w : D'.wf N) (hl : D'.sure.length = n) (picks : List Int) (j : JSt (D'.crash picks).sure J bs) : GoodC n N (D'.crash picks) J bs := by
  have ws := settle_wf w picks 0
  refine ⟨⟨ws.lo, ws.hi, ws.wb, ws.lb, by simp [DS.crash], by simp [DS.crash], ws.steps, ws.loose⟩, ⟨rfl, rfl⟩, ?_, j⟩
  show (settleL D'.sure picks 0 0 D'.loose).length = n
  rw [length_settleL]; exact hl
end Go.Cx
namespace Go.Proofs.YtlckhaodecdbbaaGreatDoor
open Go.Cx
attribute [local irreducible] Go.Cx.CX Go.Cx.CC Go.Cx.CQ Go.Cx.PS Go.Cx.Ctr Go.Cx.CH
set_option maxRecDepth 10000
theorem jbat_goC (p d : Nat) {n N : Nat} {D : DS} {J : JM} {bs : List Blk} (g : GoodC n N D J bs) (hN : N < 1000000) : Ctr Tryz.prog 52 [.pointer (some ⟨p, 0, none⟩)] [bk p 123 (jrc d J), disk d D] (fun _ => True)
    (fun v M => ∃ a c l, l.map SlB.b = bs ∧ v = .slice a l.length c ∧ M = [bk p 123 (jrc d J), disk d D, bsA a l]) := by
  obtain ⟨h1, h2, h3⟩ := bits_small g.js.may
  refine Ctr.conseq (jbat_c p d J h1 h2 h3 D g.wf hN) fun v M hv => ?_
  rw [g.js.read g.calm] at hv
  obtain ⟨a, c, l, hl, rfl, rfl, hn, hc⟩ := hv
  exact ⟨_, ⟨a, c, l, hl, rfl, rfl⟩, fun x h hs => hs⟩
theorem jopen_go (d : Nat) {n N : Nat} {D : DS} {J : JM} {bs : List Blk} (g : GoodC n N D J bs) (hN : N < 900000) : Ctr Tryz.prog 51 [.pointer (some ⟨d, 0, none⟩)] [disk d D] (fun _ => True)
    (fun v M => ∃ p, v = .tuple #[.pointer (some ⟨p, 0, none⟩), .int .i64 0] ∧ M = [bk p 123 (jrc d J), disk d D]) := by
  refine Ctr.conseq (jopen_c d D g.wf (by omega)) fun v M hv => ?_
  unfold OpenP at hv
  rw [g.js.opens g.calm] at hv
  obtain ⟨p, rfl, rfl⟩ := hv.2 rfl
  exact ⟨_, ⟨p, rfl, rfl⟩, fun x h hs => hs⟩
end Go.Proofs.YtlckhaodecdbbaaGreatDoor
/-! store's methods, but for Commit, in the program. -/
namespace Go.Cx
/-- A store on a disk at rest, the power to be cut at some step, or at none. -/
structure GoodS (n N : Nat) (D : DS) (J : JM) (bs : List Blk) (t : Tab) : Prop where
  g : GoodC n N D J bs
  fold : foldB bs = some t
  few : bs.length ≤ J.n
theorem GoodS.may {n N : Nat} {D : DS} {J : JM} {bs : List Blk} {t : Tab} (h : GoodS n N D J bs t) : MayR t := fold_may bs t h.fold
theorem GoodS.up {n N M : Nat} {D : DS} {J : JM} {bs : List Blk} {t : Tab} (g : GoodS n N D J bs t) (h : N ≤ M) : GoodS n M D J bs t := ⟨g.g.up h, g.fold, g.few⟩
theorem GoodS.arm {n N : Nat} {D : DS} {J : JM} {bs : List Blk} {t : Tab} (g : GoodS n N D J bs t) (K : Nat) (hK : K < 1000) : GoodS n N { D with left := (K : Int) } J bs t := ⟨g.g.arm K hK, g.fold, g.few⟩
theorem GoodC.bank {n N : Nat} {D : DS} {J : JM} {bs : List Blk} (g : GoodC n N D J bs) : bankM D = (n - 2) / 2 := by unfold bankM; rw [g.len]
/-- A store's cells. -/
def stc (p : Nat) (a : Option Addr) (m c : Nat) : List Value := [.pointer (some ⟨p, 0, none⟩), .slice a m c]
theorem bsA_get {L L' : List Assn} {a : Option Addr} {l : List SlB} (p : Pick (bsA a l) L L') {i : Nat} (hi : i < l.length) : ∀ y, Sep L y → SlB.ok y l[i] := fun y hy => (bs_bsA p y hy).2 _ (List.getElem_mem hi)
end Go.Cx
namespace Go.Proofs.YtlckhaodecdbbaaGreatDoor
open Go.Cx
attribute [local irreducible] Go.Cx.CX Go.Cx.CC Go.Cx.CQ Go.Cx.PS Go.Cx.Ctr Go.Cx.CH
set_option maxRecDepth 10000
theorem stnone_c (s p : Nat) (u : Value) : Ctr Tryz.prog 44 [.pointer (some ⟨s, 0, none⟩)] [bk s 79 [.pointer (some ⟨p, 0, none⟩), u]] (fun _ => True) (fun v M => v = .bool false ∧ M = [bk s 79 [.pointer (some ⟨p, 0, none⟩), u]]) := by
  refine Ctr.intro Tryz.func44 rfl Tryz.ntmps44 rfl fun x w hp => ?_
  refine wk ?_
  ((apply CQ.end1; (· rfl); (· exact .tmp rfl)); (· exact ⟨rfl, rfl⟩); (· exact selA))
theorem smake_new (d n : Nat) (h1 : 64 ≤ n) (h2 : n ≤ 4096) : Ctr Tryz.prog 9 [.pointer (some ⟨d, 0, none⟩)] [disk d (DS.new n)] (fun _ => True)
    (fun v M => ∃ s p D, v = .tuple #[.pointer (some ⟨s, 0, none⟩), .int .i64 0] ∧ M = [bk s 79 (stc p none 0 0), bk p 123 (jrc d ⟨1, HdM.z⟩), disk d D, tabA none []] ∧ GoodS n 2060 D ⟨1, HdM.z⟩ [] [] ∧ D.left = 0) := by
  refine Ctr.intro Tryz.func9 rfl Tryz.ntmps9 rfl fun x w hp => ?_
  refine wk ?_
  refine CX.callA (jmake_new d n h1 h2) ?_
  rintro _ _ ⟨p, D, rfl, rfl, g⟩
  refine wk ?_
  refine CX.ps (PS.build (vs := [(0, .pointer (some ⟨p, 0, none⟩))]) (out := stc p none 0 0) rfl rfl rfl) ?_
  (refine CX.boxA (vs := stc p none 0 0) ?_; intro s)
  refine CX.give (tabA none []) (fun k => tabA_ok.2 ⟨.inl rfl, fun _ h => by cases h⟩) ?_
  refine wk ?_
  (apply CQ.end2; (· rfl); (· exact .tmp rfl); (· exact .tmp rfl))
  · exact ⟨s, p, D, rfl, rfl, ⟨⟨g.wf, g.calm, g.len, g.js⟩, rfl, Nat.zero_le _⟩, g.left⟩
  · exact selA
theorem sroom_c (s p d : Nat) (u : Value) {n N : Nat} {D : DS} {J : JM} {bs : List Blk} (g : GoodC n N D J bs) : Ctr Tryz.prog 29 [.pointer (some ⟨s, 0, none⟩)] [bk s 79 [.pointer (some ⟨p, 0, none⟩), u], bk p 123 (jrc d J), disk d D] (fun _ => True)
    (fun v M => v = .int .i64 ((((n - 2) / 2 : Nat) : Int) - (J.h.blocks : Int)) ∧ M = [bk s 79 [.pointer (some ⟨p, 0, none⟩), u], bk p 123 (jrc d J), disk d D]) := by
  have hr := jroom_c p d J (bits_small g.js.may).2.2 D g.wf
  rw [g.bank] at hr
  refine Ctr.intro Tryz.func29 rfl Tryz.ntmps29 rfl fun x w hp => ?_
  refine wk ?_
  refine CX.callA (stnone_c s p u) ?_
  rintro _ _ ⟨rfl, rfl⟩
  refine wk ?_
  refine CX.callA (hr) ?_
  rintro _ _ ⟨rfl, rfl⟩
  refine wk ?_
  ((apply CQ.end1; (· rfl); (· exact .tmp rfl)); (· exact ⟨rfl, rfl⟩); (· exact selA))
theorem svalue_c (s p : Nat) (a : Option Addr) (tl : List RwV) (c : Nat) (hl : tl.length ≤ 1073741824) (hm : MayR (tl.map RwV.m)) (k : Blk) : Ctr Tryz.prog 26 [.pointer (some ⟨s, 0, none⟩), sv k] [bk s 79 (stc p a tl.length c), tabA a tl] (fun _ => True)
    (fun v M => ∃ a' B c' d, v = .tuple #[.slice a' (List.length B) c', .bool d] ∧ M = [bk s 79 (stc p a tl.length c), tabA a tl, ownF 5 a' B c'] ∧ (d = true → val (tl.map RwV.m) k = some B) ∧ (d = false → val (tl.map RwV.m) k = none ∧ B = [])) := by
  unfold stc
  refine Ctr.intro Tryz.func26 rfl Tryz.ntmps26 rfl fun x w hp => ?_
  refine wk ?_
  refine CX.callA (stnone_c s p (.slice a tl.length c)) ?_
  rintro _ _ ⟨rfl, rfl⟩
  refine wk ?_
  refine CX.callA (findF_c tl hl hm a c k) ?_ (hpre := by exact rw_tab (by first | exact pickA | exact updA))
  rintro _ _ ⟨a', B, c', dd, rfl, rfl, h1, h2⟩
  refine wk ?_
  (apply CQ.end2; (· rfl); (· exact .tmp rfl); (· exact .tmp rfl))
  · exact ⟨a', B, c', dd, rfl, rfl, h1, h2⟩
  · exact selA
/-- Open: the table is what the batches come to. -/
theorem sopen_go (d : Nat) {n N : Nat} {D : DS} {J : JM} {bs : List Blk} {t : Tab} (g : GoodS n N D J bs t) (hN : N < 900000) : Ctr Tryz.prog 15 [.pointer (some ⟨d, 0, none⟩)] [disk d D] (fun _ => True)
    (fun v M => ∃ s p a tl c, v = .tuple #[.pointer (some ⟨s, 0, none⟩), .int .i64 0] ∧ M = [bk s 79 (stc p a (List.length tl) c), bk p 123 (jrc d J), disk d D, tabA a tl] ∧ tl.map RwV.m = t ∧ (a = none → tl.length = 0 ∧ c = 0) ∧ tl.length ≤ c) := by
  have hfew : bs.length ≤ 60 := by have := g.few; have := g.g.js.n2; omega
  refine Ctr.intro Tryz.func15 rfl Tryz.ntmps15 rfl fun x w hp => ?_
  refine wk ?_
  refine CX.callA (jopen_go d g.g hN) ?_
  rintro _ _ ⟨p, rfl, rfl⟩
  refine wk ?_
  refine CX.ps (PS.build (vs := [(0, .pointer (some ⟨p, 0, none⟩))]) (out := stc p none 0 0) rfl rfl rfl) ?_
  (refine CX.boxA (vs := stc p none 0 0) ?_; intro s)
  refine CX.give (tabA none []) (fun k => tabA_ok.2 ⟨.inl rfl, fun _ h => by cases h⟩) ?_
  refine wk ?_
  refine CX.callA (jbat_goC p d g.g (by omega)) ?_
  rintro _ _ ⟨a5, c5, l5, hl5, rfl, rfl⟩
  have hlen : l5.length = bs.length := by rw [← hl5, List.length_map]
  refine wk ?_
  refine CC.loop (X := Nat × Option Addr × Nat × List RwV) (fun s' => [(25, .int .i64 (s'.1 : Int)), (23, .slice a5 l5.length c5), (24, .int .i64 (l5.length : Int)), (6, .pointer (some ⟨s, 0, none⟩))])
    (fun s' => [bk s 79 (stc p s'.2.1 (List.length s'.2.2.2) s'.2.2.1), tabA s'.2.1 s'.2.2.2, bk p 123 (jrc d J), disk d D, bsA a5 l5, exact x])
    (fun s' => s'.1 ≤ l5.length ∧ foldB (bs.take s'.1) = some (s'.2.2.2.map RwV.m) ∧ s'.2.2.2.length ≤ s'.1 * 1048576 ∧ (s'.2.1 = none → s'.2.2.2.length = 0 ∧ s'.2.2.1 = 0) ∧ s'.2.2.2.length ≤ s'.2.2.1)
    (fun s' => l5.length - s'.1) (0, none, 0, []) ⟨Nat.zero_le _, rfl, Nat.zero_le _, fun _ => ⟨rfl, rfl⟩, Nat.le_refl _⟩ ⟨rfl, rfl, rfl, rfl, trivial⟩ (by exact selA) ?_
  rintro ⟨i, a, c, tl⟩ ⟨hi, hf, hw, hn, hc⟩
  dsimp only at hi hf hw hn hc ⊢
  by_cases h1 : i < l5.length
  rotate_left
  · obtain rfl : i = bs.length := by omega
    rw [List.take_length, g.fold] at hf
    refine wk ?_
    (apply CQ.end2; (· rfl); (· exact .tmp rfl); (· exact .tmp rfl))
    · exact ⟨s, p, a, tl, c, rfl, rfl, (Option.some.inj hf).symm, hn, hc⟩
    · exact selA
  have hib : i < bs.length := by omega
  obtain ⟨hg0, hf'⟩ := foldB_step g.fold hib hf
  have hbi : bs[i] = (l5[i]).b := by simp only [← hl5, List.getElem_map]
  have hbl : (l5[i]).b.length ≤ 1048576 := by rw [← hbi]; exact g.g.js.sz _ (List.getElem_mem hib)
  rw [hbi] at hg0 hf'
  refine CC.fact (p := (∃ ga oa, a5 = some ⟨ga, oa, none⟩) ∧ (l5[i]).b.length ≤ (l5[i]).c) (fun y hy => ⟨bsAt_some (bs_bsA (by first | exact pickA | exact updA) y hy) (by omega), (bsA_get (by first | exact pickA | exact updA) h1 y hy).le⟩) ?_
  rintro ⟨⟨ga, oa, rfl⟩, hcap⟩
  obtain ⟨hr0, hr1⟩ := put_getB (b := (l5[i]).b) (l := (getB (l5[i]).b).1) (by rw [← hg0])
  refine wk ?_
  (refine CX.indexA (i) ?_ ?_; (· exact h1))
  (apply CX.ps; (· apply PS.load (v := .slice (l5[i]).a (l5[i]).b.length (l5[i]).c); (· rfl); (· rfl); (· exact bsA_cell (l := l5) (by first | exact pickA | exact updA) h1)))
  refine wk ?_
  refine CX.callA (bget_c (l5[i]).b (by omega) (l5[i]).a (l5[i]).c hcap) ?_ (hpre := by exact fun y hy => (bsA_get (l := l5) (by first | exact pickA | exact updA) h1 y hy).r)
  rintro _ _ ⟨a9, c9, l9, hm9, rfl, rfl, hn9, hc9, hl9⟩
  rw [hg0]
  have hMay : MayC (l9.map ChV.m) := by rw [hm9]; exact hr0
  have hMt : MayR (tl.map RwV.m) := fold_may _ _ hf
  have hi60 : i * 1048576 ≤ 62914560 := by omega
  refine wk ?_
  refine CX.callA (apply_c tl l9 (by omega) (by omega) a a9 c c9 hc hc9) ?_ (hpre := by exact fun y hy => ⟨rw_tab (by first | exact pickA | exact updA) y hy, ch_chs (by first | exact pickA | exact updA) y hy⟩)
  rintro _ _ ⟨-, happ⟩
  obtain ⟨a', c', tl', hm', rfl, rfl, hn', hc', hl'⟩ := happ ⟨hMt, hMay⟩
  refine wk ?_
  exact CQ.round (x := (i, a, c, tl)) (i + 1, a', c', tl') ⟨h1, by rw [hf', hm', hm9], by dsimp only; omega, hn', hc'⟩ (by dsimp only; omega) ⟨eqI (by omega), rfl, rfl, rfl, trivial⟩ (by exact selA)
end Go.Proofs.YtlckhaodecdbbaaGreatDoor
/-! ref 09: what batches come to, in the program. -/
namespace Go.Proofs.YtlckhaodecdbbaaGreatDoor
open Go.Cx
attribute [local irreducible] Go.Cx.CX Go.Cx.CC Go.Cx.CQ Go.Cx.PS Go.Cx.Ctr Go.Cx.CH
set_option maxRecDepth 10000
theorem r9fold_c (l5 : List SlB) (a5 : Option Addr) (c5 : Nat) (t : Tab) (hf0 : foldB (l5.map SlB.b) = some t) (hfew : l5.length ≤ 60) (hsz : ∀ b ∈ l5, b.b.length ≤ 1048576) : Ctr Tryz.prog 67 [.slice a5 l5.length c5] [] (fun x => bsAt a5 l5 x)
    (fun v M => ∃ a tl c, v = .tuple #[.slice a (List.length tl) c, .bool true] ∧ M = [tabA a tl] ∧ tl.map RwV.m = t ∧ (a = none → tl.length = 0 ∧ c = 0) ∧ tl.length ≤ c) := by
  refine Ctr.intro Tryz.func67 rfl Tryz.ntmps67 rfl fun x w hp => ?_
  refine CC.give (tabA none []) (fun k => tabA_ok.2 ⟨.inl rfl, fun _ h => by cases h⟩) ?_
  refine wk ?_
  refine CC.loop (X := Nat × Option Addr × Nat × List RwV) (fun s => [(5, .int .i64 (s.1 : Int)), (0, .slice a5 l5.length c5), (4, .slice s.2.1 s.2.2.2.length s.2.2.1)]) (fun s => [tabA s.2.1 s.2.2.2, exact x])
    (fun s => s.1 ≤ l5.length ∧ foldB ((l5.map SlB.b).take s.1) = some (s.2.2.2.map RwV.m) ∧ s.2.2.2.length ≤ s.1 * 1048576 ∧ (s.2.1 = none → s.2.2.2.length = 0 ∧ s.2.2.1 = 0) ∧ s.2.2.2.length ≤ s.2.2.1)
    (fun s => l5.length - s.1) (0, none, 0, []) ⟨Nat.zero_le _, rfl, Nat.zero_le _, fun _ => ⟨rfl, rfl⟩, Nat.le_refl _⟩ ⟨rfl, rfl, rfl, trivial⟩ (by exact selA) ?_
  rintro ⟨i, a, c, tl⟩ ⟨hi, hf, hw, hn, hc⟩
  dsimp only at hi hf hw hn hc ⊢
  by_cases h1 : i < l5.length
  rotate_left
  · rw [List.take_of_length_le (by simp; omega), hf0] at hf
    refine wk ?_
    (apply CQ.end2; (· rfl); (· exact .tmp rfl); (· exact .tmp rfl))
    · exact ⟨a, tl, c, rfl, rfl, (Option.some.inj hf).symm, hn, hc⟩
    · exact selA
  obtain ⟨ga, oa, rfl⟩ := bsAt_some hp (by omega)
  have hr := hp.2 l5[i] (List.getElem_mem h1)
  have hbl := hsz _ (List.getElem_mem h1)
  obtain ⟨hg0, hf'⟩ := foldB_step hf0 (by simpa using h1) hf
  rw [List.getElem_map] at hg0 hf'
  obtain ⟨hr0, hr1, hr2⟩ := put_getB (b := (l5[i]).b) (l := (getB (l5[i]).b).1) (by rw [← hg0])
  have hwl := wl_len (getB (l5[i]).b).1
  have hpl := put_wl (getB (l5[i]).b).1
  rw [hr1] at hpl
  have hMt : MayR (tl.map RwV.m) := fold_may _ _ hf
  have hi60 : i * 1048576 ≤ 62914560 := Nat.mul_le_mul_right 1048576 (show i ≤ 60 by omega)
  refine wk ?_
  (refine CX.indexA (i) ?_ ?_; (· exact h1))
  (apply CX.ps; (· apply PS.load (v := .slice (l5[i]).a (l5[i]).b.length (l5[i]).c); (· rfl); (· rfl); (· exact hp.cell (by first | exact pickA | exact updA) h1)))
  refine CX.callA (r8get_c (getB (l5[i]).b).1 hr0 (by omega) (l5[i]).b hr1.symm (by omega) (l5[i]).a (l5[i]).c hr.le) ?_ (hpre := by exact rdx_ex (by first | exact pickA | exact updA) hr.r)
  rintro _ _ ⟨a9, c9, l9, hm9, rfl, rfl, hn9, hc9⟩
  have hl9 : l9.length ≤ 1048576 := by have := congrArg List.length hm9; simp at this; omega
  refine wk ?_
  refine CX.callA (r8apply_c tl l9 (by omega) a a9 c c9 hc hn) ?_ (hpre := by exact ch_chs (by first | exact pickA | exact updA))
  rintro _ _ ⟨-, happ⟩
  obtain ⟨a', c', r', hm', rfl, rfl, hn', hc', hl'⟩ := happ ⟨hMt, by rw [hm9]; exact hr0⟩
  refine CX.turn (tabA a' r') (fun _ s => tabA_ok.2 (tab2A_ok.1 s).2) ?_
  refine wk ?_
  exact CQ.round (x := (i, a, c, tl)) (i + 1, a', c', r') ⟨h1, by rw [hf', hm', hm9], by dsimp only; rw [Nat.succ_mul]; exact Nat.le_trans hl' (Nat.add_le_add hw hl9), hn', hc'⟩ (by dsimp only; omega) ⟨eqI (by omega), rfl, rfl, trivial⟩ (by exact selA)
end Go.Proofs.YtlckhaodecdbbaaGreatDoor
/-! ref 08: Find, in the program. -/
namespace Go.Proofs.YtlckhaodecdbbaaGreatDoor
open Go.Cx
attribute [local irreducible] Go.Cx.CX Go.Cx.CC Go.Cx.CQ Go.Cx.PS Go.Cx.Ctr Go.Cx.CH
set_option maxRecDepth 10000
theorem r8find_c (l : List RwV) (hl : l.length ≤ 1073741824) (hm : MayR (l.map RwV.m)) (a : Option Addr) (cap : Nat) (k : Blk) : Ctr Tryz.prog 66 [.slice a l.length cap, sv k] [] (fun x => rwAt a l x)
    (fun v M => ∃ a' B c' d, v = .tuple #[.slice a' (List.length B) c', .bool d] ∧ M = [own 5 1 a' (List.length B) c' (cb B)] ∧ (d = true → val (l.map RwV.m) k = some B) ∧ (d = false → val (l.map RwV.m) k = none ∧ B = [])) := by
  refine Ctr.intro Tryz.func66 rfl Tryz.ntmps66 rfl fun x w hp => ?_
  refine wk ?_
  refine CC.loop (X := Nat) (fun i => [(6, .int .i64 (i : Int)), (0, .slice a l.length cap), (1, sv k)]) (fun i => [exact x]) (fun i => i ≤ l.length ∧ ∀ j (h : j < l.length), j < i → (l[j]).key ≠ k) (fun i => l.length - i) 0 ⟨Nat.zero_le _, fun j h h0 => by omega⟩ ⟨rfl, rfl, rfl, trivial⟩ (by exact selA) ?_
  rintro i ⟨hi, hno⟩
  by_cases h1 : i < l.length
  rotate_left
  · refine CC.ownNil 5 1 ?_
    refine wk ?_
    (apply CQ.end2; (· rfl); (· exact .tmp rfl); (· exact .tmp rfl))
    · refine ⟨none, [], 0, false, rfl, rfl, (fun h => by cases h), fun _ => ⟨val_none fun y hy => ?_, rfl⟩⟩
      obtain ⟨r, hr, rfl⟩ := List.mem_map.1 hy
      obtain ⟨j, hj, rfl⟩ := List.getElem_of_mem hr
      exact hno j hj (by omega)
    · exact selA
  obtain ⟨g, off, rfl⟩ := rwAt_some hp (by omega)
  have hok := hp.2 l[i] (List.getElem_mem h1)
  have hv : (l[i]).s.b.length ≤ 1073741824 := Nat.le_trans (mayR_ok hm i h1).2.2 (by decide)
  refine wk ?_
  refine CX.callA (r8may_c l hl (some ⟨g, off, none⟩) cap) ?_ (hpre := by exact rw_ex (by first | exact pickA | exact updA) hp)
  rw [decide_eq_true hm]
  rintro _ _ ⟨rfl, rfl⟩
  by_cases hk : (l[i]).key = k
  · refine wk ?_
    (refine CX.indexA (i) ?_ ?_; (· exact h1))
    refine wk ?_
    (apply CX.ps; (· apply PS.load (v := sv (l[i]).key); (· rfl); (· rfl); (· exact hp.cell (by first | exact pickA | exact updA) h1 0 rfl)))
    refine wk ?_
    refine CX.ps ((PS.eqlStr (a := (l[i]).key) (b := k) rfl rfl rfl).toT hk) ?_
    refine wk ?_
    (refine CX.indexA (i) ?_ ?_; (· exact h1))
    refine wk ?_
    (apply CX.ps; (· apply PS.load (v := .slice (l[i]).s.a (l[i]).s.b.length (l[i]).s.c); (· rfl); (· rfl); (· exact hp.cell (by first | exact pickA | exact updA) h1 1 rfl)))
    refine CX.callA (r0copy_c (l[i]).s.b hv (l[i]).s.a (l[i]).s.c (fun e => ⟨by rw [(hok.nil e).1]; rfl, (hok.nil e).2⟩)) ?_ (hpre := by exact rdx_ex (by first | exact pickA | exact updA) hok.r)
    rintro _ _ ⟨a2, c2, rfl, rfl⟩
    refine wk ?_
    (apply CQ.end2; (· rfl); (· exact .tmp rfl); (· exact .tmp rfl))
    · refine ⟨a2, (l[i]).s.b, c2, true, rfl, rfl, fun _ => ?_, fun h => by cases h⟩
      have := val_mem hm.1 (x := (l[i]).m) (List.mem_map_of_mem (List.getElem_mem h1))
      rw [← hk]; exact this
    · exact selA
  · refine wk ?_
    (refine CX.indexA (i) ?_ ?_; (· exact h1))
    refine wk ?_
    (apply CX.ps; (· apply PS.load (v := sv (l[i]).key); (· rfl); (· rfl); (· exact hp.cell (by first | exact pickA | exact updA) h1 0 rfl)))
    refine wk ?_
    refine CX.ps ((PS.eqlStr (a := (l[i]).key) (b := k) rfl rfl rfl).toF (fun h => hk h)) ?_
    refine wk ?_
    exact CQ.round (i + 1) ⟨h1, fun j h hj => by
      by_cases e : j = i
      · subst e; exact hk
      · exact hno j h (by omega)⟩ (by omega) ⟨eqI (by omega), rfl, rfl, trivial⟩ (by exact selA)
end Go.Proofs.YtlckhaodecdbbaaGreatDoor
/-! store's Rows, in the program. -/
namespace Go.Cx
/-- Some assertions, as one. -/
@[irreducible] def sepA (Ms : List Assn) : Assn where
  ok h := Sep Ms h
  mono := fun _ _ l s => s.mono l
theorem sepA_ok {Ms : List Assn} {h : PH} : (sepA Ms).ok h ↔ Sep Ms h := by unfold sepA; exact Iff.rfl
theorem sep_all : ∀ {Ms : List Assn} {h : PH}, Sep Ms h → ∀ B ∈ Ms, B.ok h
  | _ :: _, _, s, _, .head _ => s.head
  | _ :: _, _, s, _, .tail _ m => sep_all s.tail _ m
theorem sepA_push {B : Assn} {Ms L : List Assn} {h : PH} (s : Sep (B :: sepA Ms :: L) h) : Sep (sepA (B :: Ms) :: L) h := by
  obtain ⟨S, a, b⟩ := Sep.append (H := [B, sepA Ms]) s
  refine ⟨S, sepA_ok.2 ?_, b⟩
  obtain ⟨S', c, d⟩ := a
  exact ⟨S', c, sepA_ok.1 d.head⟩
section
variable {P : Program} {ops : Array Oper} {Q : Exit → Act → World → Prop} {n : Nat} {e0 : World} {env : Env} {L M N : List Assn} {rest : List Oper} {B : Assn} {Ms : List Assn}
theorem CX.sepPush (h : CX P ops Q n e0 env (sepA (B :: Ms) :: N) rest) (p : Pick B L M := by first | exact pickA | exact updA) (q : Pick (sepA Ms) M N := by first | exact pickA | exact updA) : CX P ops Q n e0 env L rest :=
  CX.mem (fun _ s => sepA_push (Sep.cons_mono (fun _ => q.sep) (p.sep s))) h
end
def vo (e : TypeId) (r : RwV) : Assn := ownF e r.s.a r.s.b r.s.c
def vl (e : TypeId) (l : List RwV) : List Assn := (l.map (vo e)).reverse
theorem vl_snoc (e : TypeId) (l : List RwV) (r : RwV) : vl e (l ++ [r]) = vo e r :: vl e l := by simp [vl]
theorem vl_val {e : TypeId} {l : List RwV} (h : PH) (s : (sepA (vl e l)).ok h) : (valR l).ok h := valR_ok.2 fun r hr =>
  own_SlB (e := e) (ownF_own h (sep_all (sepA_ok.1 s) (vo e r) (by simp only [vl, List.mem_reverse, List.mem_map]; exact ⟨r, hr, rfl⟩)))
theorem rdS_rw {L : List Assn} {a : Option Addr} {l : List RwV} (h : ∀ y, Sep L y → rwAt a l y) : RdS L a (l.length * 2) (rows RwV.cells l) :=
  ⟨one_rw l, fun y hy => ⟨by rw [length_rows RwV.cells 2 l (fun _ _ => rfl)], by have := (h y hy).1; unfold rdx at this; simpa using this⟩⟩
theorem rows_set2 : ∀ (l : List RwV) (i : Nat) (h : i < l.length) (s : SlB), setL (rows RwV.cells l) (i * 2 + 1) [.slice s.a s.b.length s.c] = rows RwV.cells (l.set i ⟨(l[i]).key, s⟩)
  | r :: l, 0, _, s => by simp [rows, RwV.cells, setL]
  | r :: l, i + 1, h, s => by
    have ih := rows_set2 l i (by simpa using h) s
    have e : (i + 1) * 2 + 1 = (i * 2 + 1) + 1 + 1 := by omega
    simp only [rows, RwV.cells, setL, List.map_cons, List.flatten_cons, List.cons_append, List.nil_append, List.set_cons_succ, List.getElem_cons_succ, List.length_singleton] at ih ⊢
    rw [e]
    simp only [List.take_succ_cons, List.drop_succ_cons, List.cons_append]
    rw [← ih]
end Go.Cx
namespace Go.Proofs.YtlckhaodecdbbaaGreatDoor
open Go.Cx
attribute [local irreducible] Go.Cx.CX Go.Cx.CC Go.Cx.CQ Go.Cx.PS Go.Cx.Ctr Go.Cx.CH
set_option maxRecDepth 10000
theorem slclR_c (l : List RwV) (hl : l.length ≤ 1073741824) (a : Option Addr) (c : Nat) (hn : a = none → l.length = 0 ∧ c = 0) : Ctr Tryz.prog 54 [.slice a l.length c] [] (fun x => rwAt a l x) (fun v M => ∃ a' c', v = .slice a' l.length c' ∧ M = [own 71 2 a' l.length c' (rows RwV.cells l)]) := by
  refine Ctr.intro Tryz.func54 rfl Tryz.ntmps54 rfl fun x w hp => ?_
  cases a with
  | none =>
    obtain ⟨h1, h2⟩ := hn rfl
    obtain rfl : l = [] := List.eq_nil_of_length_eq_zero h1
    refine wk ?_
    refine CQ.ownNil 71 2 ?_
    (apply CQ.end1; (· rfl); (· exact .tmp rfl))
    · exact ⟨none, 0, rfl, rfl⟩
    · exact selA
  | some ad =>
    refine wk ?_
    refine CX.buildSl0 ?_
    intro q
    refine wk ?_
    refine CX.append (m := l.length) (news := rows RwV.cells l) rfl rfl rfl (by first | exact pickA | exact updA) (rdS_rw (rw_ex (by first | exact pickA | exact updA) hp)) (by omega) (fun h => by cases h) ?_
    intro a' c'
    rw [List.nil_append, Nat.zero_add]
    refine wk ?_
    (apply CQ.end1; (· rfl); (· exact .tmp rfl))
    · exact ⟨a', c', rfl, rfl⟩
    · exact selA
theorem srows_c (s p : Nat) (a : Option Addr) (tl : List RwV) (c : Nat) (hl : tl.length ≤ 1073741824) (hn : a = none → tl.length = 0 ∧ c = 0) (hv : ∀ r ∈ tl, r.s.b.length ≤ 1073741824) : Ctr Tryz.prog 17 [.pointer (some ⟨s, 0, none⟩)] [bk s 79 (stc p a tl.length c), tabA a tl] (fun _ => True)
    (fun v M => ∃ a' c' l, v = .slice a' (List.length l) c' ∧ M = [bk s 79 (stc p a tl.length c), tabA a tl, own 71 2 a' (List.length l) c' (rows RwV.cells l), sepA (vl 5 l)] ∧ l.map RwV.m = tl.map RwV.m) := by
  unfold stc
  refine Ctr.intro Tryz.func17 rfl Tryz.ntmps17 rfl fun x w hp => ?_
  refine wk ?_
  refine CX.callA (stnone_c s p (.slice a tl.length c)) ?_
  rintro _ _ ⟨rfl, rfl⟩
  refine wk ?_
  refine CX.callA (slclR_c tl hl a c hn) ?_ (hpre := by exact rw_tab (by first | exact pickA | exact updA))
  rintro _ _ ⟨a', c', rfl, rfl⟩
  refine CX.give (sepA (vl 5 [])) (fun k => sepA_ok.2 trivial) ?_
  refine wk ?_
  refine CC.loop (X := Nat × List RwV) (fun s' => [(14, .int .i64 (s'.1 : Int)), (13, .int .i64 (tl.length : Int)), (3, .slice a' tl.length c')])
    (fun s' => [bk s 79 [.pointer (some ⟨p, 0, none⟩), .slice a tl.length c], tabA a tl, own 71 2 a' tl.length c' (rows RwV.cells s'.2), sepA (vl 5 (s'.2.take s'.1)), exact x])
    (fun s' => s'.1 ≤ tl.length ∧ s'.2.map RwV.m = tl.map RwV.m ∧ ∀ j (h : j < s'.2.length) (h' : j < tl.length), s'.1 ≤ j → s'.2[j] = tl[j])
    (fun s' => tl.length - s'.1) (0, tl) ⟨Nat.zero_le _, rfl, fun j h h' _ => rfl⟩ ⟨rfl, rfl, rfl, trivial⟩ (by exact selA) ?_
  rintro ⟨i, l⟩ ⟨hi, hm, hj⟩
  dsimp only at hi hm hj ⊢
  have hlen : l.length = tl.length := by have := congrArg List.length hm; simpa using this
  by_cases h1 : i < tl.length
  rotate_left
  · rw [show l.take i = l from List.take_of_length_le (by omega)]
    refine CC.mem (L' := [bk s 79 [.pointer (some ⟨p, 0, none⟩), .slice a tl.length c], tabA a tl, own 71 2 a' l.length c' (rows RwV.cells l), sepA (vl 5 l), exact x]) (fun h' s' => by rw [hlen]; exact s') ?_
    refine wk ?_
    (apply CQ.end1; (· rfl); (· exact .tmp rfl))
    · exact ⟨a', c', l, by rw [hlen], rfl, hm⟩
    · exact selA
  have h1l : i < l.length := by omega
  have hji := hj i h1l h1 (Nat.le_refl _)
  have hcell : (rows RwV.cells l)[i * 2 + 1]? = some (.slice (l[i]).s.a (l[i]).s.b.length (l[i]).s.c) := by
    have := rows_at RwV.cells 2 l (fun _ _ => rfl) i h1l 1 (by decide)
    rw [this]; rfl
  refine CC.fact (p := ∃ g, a' = some ⟨g, 0, none⟩) (fun y hy => ?_) ?_
  · obtain ⟨-, q, rfl⟩ := own_fact (e := 71) (L := [bk s 79 [.pointer (some ⟨p, 0, none⟩), .slice a tl.length c], tabA a tl, own 71 2 a' tl.length c' (rows RwV.cells l), sepA (vl 5 (l.take i)), exact x]) (by first | exact pickA | exact updA) (by omega) y hy
    exact ⟨q, rfl⟩
  rintro ⟨ga, rfl⟩
  have hvl : (l[i]).s.b.length ≤ 1073741824 := by rw [hji]; exact hv _ (List.getElem_mem h1)
  refine wk ?_
  (refine CX.index0 (i) ?_ ?_; (· exact h1))
  refine wk ?_
  (apply CX.ps; (· apply PS.load (v := .slice (l[i]).s.a (l[i]).s.b.length (l[i]).s.c); (· rfl); (· rfl); (· exact CellAt.own (by first | exact pickA | exact updA) hcell)))
  refine CX.callA (slclF_c (l[i]).s hvl) ?_ (hpre := by exact fun y hy => by rw [hji]; exact (rw_tab (a := a) (l := tl) (by first | exact pickA | exact updA) y hy).2 _ (List.getElem_mem h1))
  rintro _ _ ⟨a2, c2, rfl, rfl⟩
  (refine CX.index0 (i) ?_ ?_; (· exact h1))
  refine wk ?_
  refine CX.storeOwn (v := .slice a2 (l[i]).s.b.length c2) rfl rfl rfl rfl (by intro u hu; simp [Value.cells] at hu; rw [hu]; rfl) (by first | exact pickA | exact updA) (by show i * 2 + 1 + 1 ≤ tl.length * 2; omega) ?_
  rw [show (Value.slice a2 (l[i]).s.b.length c2).cells.toList = [.slice (SlB.a ⟨a2, (l[i]).s.b, c2⟩) (SlB.b ⟨a2, (l[i]).s.b, c2⟩).length (SlB.c ⟨a2, (l[i]).s.b, c2⟩)] from rfl, rows_set2 l i h1l ⟨a2, (l[i]).s.b, c2⟩]
  refine CX.sepPush (B := ownF 5 a2 (l[i]).s.b c2) (Ms := vl 5 (l.take i)) ?_
  have htk : ownF 5 a2 (l[i]).s.b c2 :: vl 5 (l.take i) = vl 5 ((l.set i ⟨(l[i]).key, ⟨a2, (l[i]).s.b, c2⟩⟩).take (i + 1)) := by
    rw [List.take_add_one, List.take_set_of_le (Nat.le_refl _), List.getElem?_set_self (by omega)]
    exact (vl_snoc 5 (l.take i) ⟨(l[i]).key, ⟨a2, (l[i]).s.b, c2⟩⟩).symm
  rw [htk]
  have hm' : (l.set i ⟨(l[i]).key, ⟨a2, (l[i]).s.b, c2⟩⟩).map RwV.m = tl.map RwV.m := by
    rw [← hm, List.map_set]
    apply List.ext_getElem (by simp)
    intro j h2 h3
    rw [List.getElem_set]
    split
    · rename_i e; subst e; simp [RwV.m]
    · rfl
  have hj' : ∀ j (h : j < (l.set i ⟨(l[i]).key, ⟨a2, (l[i]).s.b, c2⟩⟩).length) (h' : j < tl.length), i + 1 ≤ j → (l.set i ⟨(l[i]).key, ⟨a2, (l[i]).s.b, c2⟩⟩)[j] = tl[j] := fun j h h' hij => by
    rw [List.getElem_set_ne (by omega)]
    exact hj j (by simpa using h) h' (by omega)
  refine wk ?_
  exact CQ.round (x := (i, l)) (i + 1, l.set i ⟨(l[i]).key, ⟨a2, (l[i]).s.b, c2⟩⟩) ⟨h1, hm', hj'⟩ (by dsimp only; omega) ⟨eqI (by omega), rfl, rfl, trivial⟩ (by exact selA)
end Go.Proofs.YtlckhaodecdbbaaGreatDoor
/-! store's Commit, in the program. -/
namespace Go.Cx
/-- How laying a batch turns out, behind what the power leaves of it. -/
def TurnS (n : Nat) (J : JM) (D : DS) (bs bs' : List Blk) (q : Int × JM × DS) : Prop :=
  (q.1 = 0 ∧ q.2.1.n = J.n + 1 ∧ Calm q.2.2 ∧ q.2.2.sure.length = n ∧ JSt q.2.2.sure q.2.1 bs' ∧ (D.left = 0 → q.2.2.left = 0)) ∨
  (q.1 = 9 ∧ D.left ≠ 0 ∧ q.2.2.dark = true ∧ q.2.2.sure.length = n ∧ ∀ picks, JSt (q.2.2.crash picks).sure J bs ∨ ∃ Jn : JM, Jn.n = J.n + 1 ∧ JSt (q.2.2.crash picks).sure Jn bs')
theorem app_turn {n N : Nat} {D : DS} {J : JM} {bs : List Blk} (g : GoodC n N D J bs) (n2 : J.n ≤ 59) {b : Blk} (hb : b.length ≤ 1048576) :
    (appendM J D b = (10, J, D) ∧ (n - 2) / 2 < J.h.blocks + (cutB b).length) ∨ (J.h.blocks + (cutB b).length ≤ (n - 2) / 2 ∧ TurnS n J D bs (bs ++ [b]) (appendM J D b)) := by
  have hbk : bankS D.sure = (n - 2) / 2 := by unfold bankS; rw [g.len]
  by_cases hr : J.h.blocks + (cutB b).length ≤ bankS D.sure
  · obtain ⟨e, o⟩ := (append_out g.js g.calm n2 hb).2 hr
    refine .inr ⟨by omega, ?_⟩
    rw [e]
    rcases lay_out g.js g.calm o with ⟨h1, h2, h3, h4, h5, h6⟩ | ⟨h1, h0, h2, h3, h4, h5⟩
    · exact .inl ⟨h1, by rw [h2], h3, by rw [h4, g.len], by rw [h2]; exact h5, h6⟩
    · exact .inr ⟨h1, h0, h3, by rw [h4, g.len], fun picks => (h5 picks).imp id fun h => ⟨_, rfl, h⟩⟩
  · exact .inl ⟨(append_out g.js g.calm n2 hb).1 (by omega), by omega⟩
theorem rep_turn {n N : Nat} {D : DS} {J : JM} {bs : List Blk} (g : GoodC n N D J bs) (n2 : J.n ≤ 59) {b : Blk} (hb : b.length ≤ 1048576) :
    (replaceM J D b = (10, J, D) ∧ (n - 2) / 2 < (cutB b).length) ∨ ((cutB b).length ≤ (n - 2) / 2 ∧ TurnS n J D bs [b] (replaceM J D b)) := by
  have hbk : bankS D.sure = (n - 2) / 2 := by unfold bankS; rw [g.len]
  by_cases hr : (cutB b).length ≤ bankS D.sure
  · obtain ⟨e, o⟩ := (replace_out g.js g.calm n2 hb).2 hr
    refine .inr ⟨by omega, ?_⟩
    rw [e]
    rcases lay_out g.js g.calm o with ⟨h1, h2, h3, h4, h5, h6⟩ | ⟨h1, h0, h2, h3, h4, h5⟩
    · exact .inl ⟨h1, by rw [h2], h3, by rw [h4, g.len], by rw [h2]; exact h5, h6⟩
    · exact .inr ⟨h1, h0, h3, by rw [h4, g.len], fun picks => (h5 picks).imp id fun h => ⟨_, rfl, h⟩⟩
  · exact .inl ⟨(replace_out g.js g.calm n2 hb).1 (by omega), by omega⟩
/-- A batch, or all anew. -/
def lay9 (J : JM) (D : DS) (b w : Blk) : Int × JM × DS := if (appendM J D b).1 = 10 then replaceM J D w else appendM J D b
/-- What becomes of it. -/
def LaidS (n : Nat) (J : JM) (D : DS) (bs : List Blk) (b w : Blk) (q : Int × JM × DS) : Prop :=
  (q = (10, J, D) ∧ (n - 2) / 2 < J.h.blocks + (cutB b).length ∧ (n - 2) / 2 < (cutB w).length) ∨
  (J.h.blocks + (cutB b).length ≤ (n - 2) / 2 ∧ TurnS n J D bs (bs ++ [b]) q) ∨
  ((n - 2) / 2 < J.h.blocks + (cutB b).length ∧ (cutB w).length ≤ (n - 2) / 2 ∧ TurnS n J D bs [w] q)
theorem TurnS.ne10 {n : Nat} {J : JM} {D : DS} {bs bs' : List Blk} {q : Int × JM × DS} (h : TurnS n J D bs bs' q) : q.1 = 0 ∨ q.1 = 9 := by
  rcases h with ⟨h, -⟩ | ⟨h, -⟩
  · exact .inl h
  · exact .inr h
theorem lay9_out {n N : Nat} {D : DS} {J : JM} {bs : List Blk} (g : GoodC n N D J bs) (n2 : J.n ≤ 59) {b w : Blk} (hb : b.length ≤ 1048576) (hw : w.length ≤ 1048576) : LaidS n J D bs b w (lay9 J D b w) := by
  unfold lay9 LaidS
  rcases app_turn g n2 hb with ⟨h1, h2⟩ | ⟨h1, h2⟩
  · rw [if_pos (by rw [h1])]
    rcases rep_turn g n2 hw with ⟨h3, h4⟩ | ⟨h3, h4⟩
    · exact .inl ⟨h3, h2, h4⟩
    · exact .inr (.inr ⟨h2, h3, h4⟩)
  · rw [if_neg (by have := h2.ne10; omega)]
    exact .inr (.inl ⟨h1, h2⟩)
/-- What Commit comes to: the number, the journal, the disk and the table. -/
def commitM (J : JM) (D : DS) (t : Tab) (l : List ChM) : Int × JM × DS × Tab :=
  if ¬ MayC l then (2, J, D, t) else if l = [] then (0, J, D, t)
  else ((lay9 J D (putB l) (wholeB (applyM t l))).1, (lay9 J D (putB l) (wholeB (applyM t l))).2.1, (lay9 J D (putB l) (wholeB (applyM t l))).2.2, if (lay9 J D (putB l) (wholeB (applyM t l))).1 = 0 then applyM t l else t)
end Go.Cx
namespace Go.Proofs.YtlckhaodecdbbaaGreatDoor
open Go.Cx
attribute [local irreducible] Go.Cx.CX Go.Cx.CC Go.Cx.CQ Go.Cx.PS Go.Cx.Ctr Go.Cx.CH
set_option maxRecDepth 10000
/-- What lay leaves. -/
def LaidP (s p d : Nat) (u : Value) (N : Nat) (q : Int × JM × DS) (v : Value) (M : List Assn) : Prop :=
  ∃ E, ErrV q.1 v E ∧ M = E ++ [bk s 79 [.pointer (some ⟨p, 0, none⟩), u], bk p 123 (jrc d q.2.1), disk d q.2.2] ∧ q.2.2.wf (N + 2060)
set_option maxHeartbeats 1000000 in
theorem slay_c (s p d : Nat) (u : Value) {n N : Nat} {D : DS} {J : JM} {bs : List Blk} (g : GoodC n N D J bs) (n2 : J.n ≤ 59) (hN : N < 900000) (l : List ChV) (nl : List RwV) (hm : MayC (l.map ChV.m)) (hr : MayR (nl.map RwV.m))
    (hl : wl (l.map ChV.m) ≤ 1048572) (hn : wt (nl.map RwV.m) ≤ 1048572) (la na : Option Addr) (lc nc : Nat) (hnc : nl.length ≤ nc) :
    Ctr Tryz.prog 47 [.pointer (some ⟨s, 0, none⟩), .slice la l.length lc, .slice na nl.length nc] [bk s 79 [.pointer (some ⟨p, 0, none⟩), u], bk p 123 (jrc d J), disk d D] (fun x => chAt la l x ∧ rwAt na nl x)
      (LaidP s p d u N (lay9 J D (putB (l.map ChV.m)) (wholeB (nl.map RwV.m)))) := by
  have hll : l.length ≤ 1048572 := by have := wl_len (l.map ChV.m); rw [List.length_map] at this; omega
  have hnl : nl.length ≤ 1048572 := by have := wt_len (nl.map RwV.m); rw [List.length_map] at this; omega
  have hbl := put_wl (l.map ChV.m)
  have hwl := wholeB_len (nl.map RwV.m)
  unfold LaidP
  refine Ctr.intro Tryz.func47 rfl Tryz.ntmps47 rfl fun x w hp => ?_
  obtain ⟨hp1, hp2⟩ := hp
  refine wk ?_
  refine CX.callA (bput_c l (by omega) (fun _ => by omega) la lc) ?_ (hpre := by exact ch_ex (by first | exact pickA | exact updA) hp1)
  rintro _ _ ⟨hput, -⟩
  obtain ⟨q1, k1, rfl, rfl⟩ := hput hm
  refine wk ?_
  refine CX.callA (japp_c p d J (by omega) g.js.may D g.wf (by omega) (putB (l.map ChV.m)) (by omega) (some ⟨q1, 0, none⟩) k1 (fun h => by cases h)) ?_ (hpre := by exact rdx_own (by first | exact pickA | exact updA) rfl)
  rintro _ _ ⟨rfl, rfl, hw1⟩
  rcases app_turn g n2 (b := putB (l.map ChV.m)) (by omega) with ⟨h1, h2⟩ | ⟨h1, h2⟩
  rotate_left
  · have hlay : lay9 J D (putB (l.map ChV.m)) (wholeB (nl.map RwV.m)) = appendM J D (putB (l.map ChV.m)) := by
      unfold lay9; rw [if_neg (by have := h2.ne10; omega)]
    rw [hlay]
    rcases h2.ne10 with e | e
    · generalize appendM J D (putB (l.map ChV.m)) = q at *
      obtain ⟨r, J', D'⟩ := q
      dsimp only at e hw1 ⊢
      subst e
      refine CX.callA (wrap_c _ 0) ?_
      rintro _ _ (⟨-, rfl, rfl⟩ | ⟨h, -⟩)
      rotate_left
      · exact absurd rfl h
      refine wk ?_
      refine CX.callA (full_c 0 _ _ (.inl ⟨rfl, rfl, rfl⟩)) ?_
      rw [decide_eq_false (by decide)]
      rintro _ _ ⟨rfl, rfl⟩
      refine wk ?_
      (apply CQ.end1; (· rfl); (· exact .tmp rfl))
      · exact ⟨[], .inl ⟨rfl, rfl, rfl⟩, rfl, hw1⟩
      · exact selA
    · generalize appendM J D (putB (l.map ChV.m)) = q at *
      obtain ⟨r, J', D'⟩ := q
      dsimp only at e hw1 ⊢
      subst e
      refine CX.callA (wrap_c _ 9) ?_
      rintro _ _ (⟨h, -⟩ | ⟨-, be, se, rfl, rfl⟩)
      · exact absurd h (by decide)
      refine wk ?_
      refine CX.callA (full_c 9 _ _ (.inr ⟨by decide, be, se, rfl, rfl⟩)) ?_
      rw [decide_eq_false (by decide)]
      rintro _ _ ⟨rfl, rfl⟩
      refine wk ?_
      (apply CQ.end1; (· rfl); (· exact .tmp rfl))
      · exact ⟨_, .inr ⟨by decide, be, se, rfl, rfl⟩, rfl, hw1⟩
      · exact selA
  have hlay : lay9 J D (putB (l.map ChV.m)) (wholeB (nl.map RwV.m)) = replaceM J D (wholeB (nl.map RwV.m)) := by
    unfold lay9; rw [if_pos (by rw [h1])]
  rw [hlay]
  rw [h1] at hw1 ⊢
  dsimp only at hw1 ⊢
  refine CX.callA (wrap_c _ 10) ?_
  rintro _ _ (⟨h, -⟩ | ⟨-, be, se, rfl, rfl⟩)
  · exact absurd h (by decide)
  refine wk ?_
  refine CX.callA (full_c 10 _ _ (.inr ⟨by decide, be, se, rfl, rfl⟩)) ?_
  rw [decide_eq_true (by decide)]
  rintro _ _ ⟨rfl, rfl⟩
  refine wk ?_
  refine CX.callA (whole_c nl (by omega) na nc hnc) ?_ (hpre := by exact rw_ex (by first | exact pickA | exact updA) hp2)
  rintro _ _ ⟨-, hwh⟩
  obtain ⟨a3, c3, l3, hm3, rfl, rfl, hn3, hc3, hl3⟩ := hwh ⟨may_nil, hr⟩
  rw [List.map_nil] at hm3
  have hl3' : l3.length ≤ 1048572 := by simp only [List.length_nil] at hl3; omega
  refine wk ?_
  refine CX.callA (bput_c l3 (by omega) (fun _ => by rw [hm3]; show (wholeB (nl.map RwV.m)).length ≤ _; omega) a3 c3) ?_ (hpre := by exact ch_chs (by first | exact pickA | exact updA))
  rintro _ _ ⟨hput3, -⟩
  obtain ⟨q4, k4, rfl, rfl⟩ := hput3 (by rw [hm3]; exact whole_may hr)
  rw [hm3]
  rw [show putB (betweenM [] (nl.map RwV.m)) = wholeB (nl.map RwV.m) from rfl]
  refine wk ?_
  refine CX.callA (jrep_c p d J (by omega) g.js.may D g.wf (by omega) (wholeB (nl.map RwV.m)) (by omega) (some ⟨q4, 0, none⟩) k4 (fun h => by cases h)) ?_ (hpre := by exact rdx_own (by first | exact pickA | exact updA) rfl)
  rintro _ _ ⟨rfl, rfl, hw4⟩
  have hcases : (replaceM J D (wholeB (nl.map RwV.m))).1 = 10 ∨ (replaceM J D (wholeB (nl.map RwV.m))).1 = 0 ∨ (replaceM J D (wholeB (nl.map RwV.m))).1 = 9 := by
    rcases rep_turn g n2 (b := wholeB (nl.map RwV.m)) (by omega) with ⟨h, -⟩ | ⟨-, h⟩
    · exact .inl (by rw [h])
    · exact .inr h.ne10
  generalize replaceM J D (wholeB (nl.map RwV.m)) = q at *
  obtain ⟨r, J', D'⟩ := q
  dsimp only at hcases hw4 ⊢
  rcases hcases with rfl | rfl | rfl
  · refine CX.callA (wrap_c _ 10) ?_
    rintro _ _ (⟨h, -⟩ | ⟨-, be2, se2, rfl, rfl⟩)
    · exact absurd h (by decide)
    refine wk ?_
    refine CX.callA (full_c 10 _ _ (.inr ⟨by decide, be2, se2, rfl, rfl⟩)) ?_
    rw [decide_eq_true (by decide)]
    rintro _ _ ⟨rfl, rfl⟩
    refine wk ?_
    refine CX.callA (wrap_c _ 10) ?_
    rintro _ _ (⟨h, -⟩ | ⟨-, be3, se3, rfl, rfl⟩)
    · exact absurd h (by decide)
    refine wk ?_
    (apply CQ.end1; (· rfl); (· exact .tmp rfl))
    · exact ⟨_, .inr ⟨by decide, be3, se3, rfl, rfl⟩, rfl, hw4⟩
    · exact selA
  · refine CX.callA (wrap_c _ 0) ?_
    rintro _ _ (⟨-, rfl, rfl⟩ | ⟨h, -⟩)
    rotate_left
    · exact absurd rfl h
    refine wk ?_
    refine CX.callA (full_c 0 _ _ (.inl ⟨rfl, rfl, rfl⟩)) ?_
    rw [decide_eq_false (by decide)]
    rintro _ _ ⟨rfl, rfl⟩
    refine wk ?_
    (apply CQ.end1; (· rfl); (· exact .tmp rfl))
    · exact ⟨[], .inl ⟨rfl, rfl, rfl⟩, rfl, hw4⟩
    · exact selA
  · refine CX.callA (wrap_c _ 9) ?_
    rintro _ _ (⟨h, -⟩ | ⟨-, be2, se2, rfl, rfl⟩)
    · exact absurd h (by decide)
    refine wk ?_
    refine CX.callA (full_c 9 _ _ (.inr ⟨by decide, be2, se2, rfl, rfl⟩)) ?_
    rw [decide_eq_false (by decide)]
    rintro _ _ ⟨rfl, rfl⟩
    refine wk ?_
    (apply CQ.end1; (· rfl); (· exact .tmp rfl))
    · exact ⟨_, .inr ⟨by decide, be2, se2, rfl, rfl⟩, rfl, hw4⟩
    · exact selA
/-- What Commit leaves. -/
def CommitP (s p d : Nat) (N : Nat) (q : Int × JM × DS × Tab) (v : Value) (M : List Assn) : Prop :=
  ∃ a' c' tl', v = .int .i64 q.1 ∧ M = [bk s 79 (stc p a' (List.length tl') c'), bk p 123 (jrc d q.2.1), disk d q.2.2.1, tabA a' tl'] ∧ tl'.map RwV.m = q.2.2.2 ∧ (a' = none → tl'.length = 0 ∧ c' = 0) ∧ tl'.length ≤ c' ∧ q.2.2.1.wf (N + 2060)
set_option maxHeartbeats 1000000 in
theorem scommit_c (s p d : Nat) {n N : Nat} {D : DS} {J : JM} {bs : List Blk} (g : GoodC n N D J bs) (n2 : J.n ≤ 59) (hN : N < 900000) (l : List ChV) (tl : List RwV) (hr : MayR (tl.map RwV.m)) (hl0 : l.length ≤ 1073741824)
    (hw : MayC (l.map ChV.m) → wt (tl.map RwV.m) + wl (l.map ChV.m) ≤ 1048572) (hw0 : wt (tl.map RwV.m) ≤ 1048572) (la a : Option Addr) (lc c : Nat) (hlc : l.length ≤ lc) (hc : tl.length ≤ c) (hn : a = none → tl.length = 0 ∧ c = 0) :
    Ctr Tryz.prog 13 [.pointer (some ⟨s, 0, none⟩), .slice la l.length lc] [bk s 79 (stc p a tl.length c), bk p 123 (jrc d J), disk d D, tabA a tl] (fun x => chAt la l x ∧ errG x)
      (CommitP s p d N (commitM J D (tl.map RwV.m) (l.map ChV.m))) := by
  have htl : tl.length ≤ 1048572 := by have := wt_len (tl.map RwV.m); rw [List.length_map] at this; omega
  unfold CommitP commitM stc
  refine Ctr.intro Tryz.func13 rfl Tryz.ntmps13 rfl fun x w hp => ?_
  obtain ⟨hp1, hp2⟩ := hp
  refine wk ?_
  refine CX.callA (stnone_c s p (.slice a tl.length c)) ?_
  rintro _ _ ⟨rfl, rfl⟩
  refine wk ?_
  refine CX.callA (mayC_c l (by omega) la lc) ?_ (hpre := by exact ch_ex (by first | exact pickA | exact updA) hp1)
  by_cases hm : MayC (l.map ChV.m)
  rotate_left
  · rw [decide_eq_false hm]
    rintro _ _ ⟨rfl, rfl⟩
    rw [if_pos hm]
    refine wk ?_
    (apply CQ.end1; (· rfl); (· exact .tmp rfl))
    · exact ⟨a, c, tl, rfl, rfl, rfl, hn, hc, wf_up g.wf (by omega)⟩
    · exact selA
  rw [decide_eq_true hm, if_neg (fun h => h hm)]
  rintro _ _ ⟨rfl, rfl⟩
  specialize hw hm
  by_cases h0 : l.length = 0
  · have hl : l = [] := List.eq_nil_of_length_eq_zero h0
    rw [if_pos (by rw [hl]; rfl)]
    refine wk ?_
    (apply CQ.end1; (· rfl); (· exact .tmp rfl))
    · exact ⟨a, c, tl, rfl, rfl, rfl, hn, hc, wf_up g.wf (by omega)⟩
    · exact selA
  rw [if_neg (fun e => h0 (by have := congrArg List.length e; simpa using this))]
  refine wk ?_
  refine CX.callA (apply_c tl l (by omega) (by omega) a la c lc hc hlc) ?_ (hpre := by exact fun y hy => ⟨rw_tab (by first | exact pickA | exact updA) y hy, ch_ex (by first | exact pickA | exact updA) hp1 y hy⟩)
  rintro _ _ ⟨-, happ⟩
  obtain ⟨a9, c9, r9, hm9, rfl, rfl, hn9, hc9, hl9⟩ := happ ⟨hr, hm⟩
  have hwt := wt_apply (tl.map RwV.m) (l.map ChV.m)
  have hmr := apply_may hr hm
  rw [← hm9] at hwt hmr ⊢
  refine wk ?_
  refine CX.callA (slay_c s p d (.slice a tl.length c) g n2 hN l r9 hm hmr (by omega) (by omega) la a9 lc c9 hc9) ?_ (hpre := by exact fun y hy => ⟨ch_ex (by first | exact pickA | exact updA) hp1 y hy, rw_tab (by first | exact pickA | exact updA) y hy⟩)
  unfold LaidP
  generalize lay9 J D (putB (l.map ChV.m)) (wholeB (r9.map RwV.m)) = q
  obtain ⟨r, J', D'⟩ := q
  rintro v M ⟨E, hE, rfl, hwf⟩
  dsimp only at hE hwf ⊢
  have hE0 := hE
  rcases hE with ⟨rfl, rfl, rfl⟩ | ⟨hr0, be, se, rfl, rfl⟩
  · rw [if_pos rfl]
    refine wk ?_
    refine CX.ps (PS.neqIfF Tryz.underlying87) ?_
    refine wk ?_
    (apply CQ.end1; (· rfl); (· exact .tmp rfl))
    · exact ⟨a9, c9, r9, rfl, rfl, rfl, hn9, hc9, hwf⟩
    · exact selA
  · rw [if_neg hr0]
    refine wk ?_
    refine CX.ps (PS.neqIfT Tryz.underlying87) ?_
    refine wk ?_
    refine CX.callA (told_c r _ _ hE0) ?_ (hpre := by exact errG_ex (by first | exact pickA | exact updA) hp2)
    rintro _ _ ⟨rfl, rfl⟩
    refine wk ?_
    (apply CQ.end1; (· rfl); (· exact .tmp rfl))
    · exact ⟨a, c, tl, rfl, rfl, rfl, hn, hc, hwf⟩
    · exact selA
end Go.Proofs.YtlckhaodecdbbaaGreatDoor
/-! Layer 9, plain: how Commit turns out. No program in sight. -/
namespace Go.Cx
theorem commit_none (J : JM) (D : DS) (t : Tab) : commitM J D t [] = (0, J, D, t) := by
  unfold commitM; rw [if_neg (fun h => h ⟨.nil, fun _ h => by cases h⟩), if_pos rfl]
/-- Where the batch, or the whole, found room. -/
def RoomS (n : Nat) (J : JM) (bs : List Blk) (b w : Blk) (bs' : List Blk) : Prop :=
  (bs' = bs ++ [b] ∧ J.h.blocks + (cutB b).length ≤ (n - 2) / 2) ∨ (bs' = [w] ∧ (n - 2) / 2 < J.h.blocks + (cutB b).length ∧ (cutB w).length ≤ (n - 2) / 2)
theorem turn_good {n N M : Nat} {D : DS} {J : JM} {bs bs' : List Blk} {t t' : Tab} {q : Int × JM × DS} (g : GoodS n N D J bs t) (h : TurnS n J D bs bs' q) (hf : foldB bs' = some t') (hl : bs'.length ≤ bs.length + 1) (hw : q.2.2.wf M) :
    (q.1 = 0 ∧ q.2.1.n = J.n + 1 ∧ GoodS n M q.2.2 q.2.1 bs' t' ∧ (D.left = 0 → q.2.2.left = 0)) ∨
    (q.1 = 9 ∧ D.left ≠ 0 ∧ q.2.2.dark = true ∧ ∀ picks, ∃ Jx bx tx, GoodS n M (q.2.2.crash picks) Jx bx tx ∧ Jx.n ≤ J.n + 1 ∧ (tx = t ∨ tx = t')) := by
  have hfew := g.few
  rcases h with ⟨h1, h2, h3, h4, h5, h6⟩ | ⟨h1, h2, h3, h4, h5⟩
  · exact .inl ⟨h1, h2, ⟨⟨hw, h3, h4, h5⟩, hf, by omega⟩, h6⟩
  · refine .inr ⟨h1, h2, h3, fun picks => ?_⟩
    rcases h5 picks with hj | ⟨Jn, hj1, hj2⟩
    · exact ⟨J, bs, t, ⟨out_crash hw h4 picks hj, g.fold, hfew⟩, by omega, .inl rfl⟩
    · exact ⟨Jn, bs', t', ⟨out_crash hw h4 picks hj2, hf, by omega⟩, by omega, .inr rfl⟩
theorem commit_out {n N M : Nat} {D : DS} {J : JM} {bs : List Blk} {t : Tab} (g : GoodS n N D J bs t) (n2 : J.n ≤ 59) {l : List ChM} (hm : MayC l) (h0 : l ≠ []) (hl : wl l ≤ 1048572) (hn : wt (applyM t l) ≤ 1048572) (hw : (commitM J D t l).2.2.1.wf M) :
    (commitM J D t l = (10, J, D, t) ∧ (n - 2) / 2 < J.h.blocks + (cutB (putB l)).length ∧ (n - 2) / 2 < (cutB (wholeB (applyM t l))).length) ∨
    (∃ bs', RoomS n J bs (putB l) (wholeB (applyM t l)) bs' ∧
      ((∃ J' D', commitM J D t l = (0, J', D', applyM t l) ∧ J'.n = J.n + 1 ∧ GoodS n M D' J' bs' (applyM t l) ∧ (D.left = 0 → D'.left = 0)) ∨
       (∃ J' D', commitM J D t l = (9, J', D', t) ∧ D.left ≠ 0 ∧ D'.dark = true ∧ ∀ picks, ∃ Jx bx tx, GoodS n M (D'.crash picks) Jx bx tx ∧ Jx.n ≤ J.n + 1 ∧ (tx = t ∨ tx = applyM t l)))) := by
  have hmn := apply_may g.may hm
  have f1 := fold_put g.fold hm (by omega)
  have f2 := fold_whole hmn (by omega)
  have hq := lay9_out g.g n2 (b := putB l) (w := wholeB (applyM t l)) (by rw [put_wl]; omega) (by rw [wholeB_len]; omega)
  have ec : commitM J D t l = ((lay9 J D (putB l) (wholeB (applyM t l))).1, (lay9 J D (putB l) (wholeB (applyM t l))).2.1, (lay9 J D (putB l) (wholeB (applyM t l))).2.2, if (lay9 J D (putB l) (wholeB (applyM t l))).1 = 0 then applyM t l else t) := by
    unfold commitM; rw [if_neg (fun h => h hm), if_neg h0]
  rw [ec] at hw ⊢
  dsimp only at hw
  generalize lay9 J D (putB l) (wholeB (applyM t l)) = q at *
  obtain ⟨r, J', D'⟩ := q
  have fin : ∀ bs', foldB bs' = some (applyM t l) → bs'.length ≤ bs.length + 1 → TurnS n J D bs bs' (r, J', D') →
      ((∃ J1 D1, (r, J', D', if r = 0 then applyM t l else t) = (0, J1, D1, applyM t l) ∧ J1.n = J.n + 1 ∧ GoodS n M D1 J1 bs' (applyM t l) ∧ (D.left = 0 → D1.left = 0)) ∨
       (∃ J1 D1, (r, J', D', if r = 0 then applyM t l else t) = (9, J1, D1, t) ∧ D.left ≠ 0 ∧ D1.dark = true ∧ ∀ picks, ∃ Jx bx tx, GoodS n M (D1.crash picks) Jx bx tx ∧ Jx.n ≤ J.n + 1 ∧ (tx = t ∨ tx = applyM t l))) := by
    intro bs' hf hb ht
    rcases turn_good g ht hf hb hw with ⟨h1, h2, h3, h4⟩ | ⟨h1, h2, h3, h4⟩
    · dsimp only at h1 h2 h3 h4; subst h1
      exact .inl ⟨J', D', by rw [if_pos rfl], h2, h3, h4⟩
    · dsimp only at h1 h2 h3 h4; subst h1
      exact .inr ⟨J', D', by rw [if_neg (by decide)], h2, h3, h4⟩
  rcases hq with ⟨e, h1, h2⟩ | ⟨h1, h2⟩ | ⟨h1, h2, h3⟩
  · obtain ⟨rfl, e2⟩ := Prod.mk.inj e
    obtain ⟨rfl, rfl⟩ := Prod.mk.inj e2
    exact .inl ⟨by rw [if_neg (show ¬ ((10 : Int) = 0) by decide)], h1, h2⟩
  · exact .inr ⟨_, .inl ⟨rfl, h1⟩, fin _ f1 (by simp) h2⟩
  · exact .inr ⟨_, .inr ⟨rfl, h1, h2⟩, fin _ f2 (by simp) h3⟩
/-- With no cut ahead. -/
theorem commit_go {n N M : Nat} {D : DS} {J : JM} {bs : List Blk} {t : Tab} (g : GoodS n N D J bs t) (hd : D.left = 0) (n2 : J.n ≤ 59) {l : List ChM} (hm : MayC l) (h0 : l ≠ []) (hl : wl l ≤ 1048572) (hn : wt (applyM t l) ≤ 1048572) (hw : (commitM J D t l).2.2.1.wf M) :
    (commitM J D t l = (10, J, D, t) ∧ (n - 2) / 2 < J.h.blocks + (cutB (putB l)).length ∧ (n - 2) / 2 < (cutB (wholeB (applyM t l))).length) ∨
    (∃ bs' J' D', RoomS n J bs (putB l) (wholeB (applyM t l)) bs' ∧ commitM J D t l = (0, J', D', applyM t l) ∧ J'.n = J.n + 1 ∧ GoodS n M D' J' bs' (applyM t l) ∧ D'.left = 0) := by
  rcases commit_out g n2 hm h0 hl hn hw with h | ⟨bs', h1, ⟨J', D', h2, h3, h4, h5⟩ | ⟨J', D', h2, h3, -⟩⟩
  · exact .inl h
  · exact .inr ⟨bs', J', D', h1, h2, h3, h4, h5 hd⟩
  · exact absurd hd h3
theorem GoodS.blocks {n N : Nat} {D : DS} {J : JM} {bs : List Blk} {t : Tab} (g : GoodS n N D J bs t) : J.h.blocks = (Cut bs).length := g.g.js.blocks
end Go.Cx
/-! The statements' own doings of layer 9 (lives), and StoreNil, in the program. -/
namespace Go.Cx
def l9a : List ChM := [⟨[97], [7], false⟩]
theorem l9a_may : MayC l9a := by decide
theorem l9a_app : applyM [] l9a = [([97], [7])] := by simp [applyM, l9a]
theorem l9a_put : (cutB (putB l9a)).length = 1 := by rw [cut_len, show (putB l9a).length = 15 from by decide]
theorem l9b_may (Z : Blk) (hZ : Z.length = 5000) : MayC [⟨[98], Z, false⟩] := ⟨.cons (fun _ h => by cases h) .nil, fun c hc => by
  rw [List.mem_singleton.1 hc]; exact ⟨by show 1 ≤ 1; decide, by show 1 ≤ 16; decide, by show Z.length ≤ _; omega, fun h => by cases h⟩⟩
theorem l9b_app (Z : Blk) : applyM [([97], [7])] [⟨[98], Z, false⟩] = [([97], [7]), ([98], Z)] := by
  have h : klt [97] [98] = true := by decide
  simp [applyM, h]
theorem l9b_wl (Z : Blk) : wl [⟨[98], Z, false⟩] = 10 + Z.length := by
  rw [wl_cons, ← chB_lo]
  simp [wl]
  omega
end Go.Cx
namespace Go.Proofs.YtlckhaodecdbbaaGreatDoor
open Go.Cx
attribute [local irreducible] Go.Cx.CX Go.Cx.CC Go.Cx.CQ Go.Cx.PS Go.Cx.Ctr Go.Cx.CH
set_option maxRecDepth 10000
set_option maxHeartbeats 1000000 in
theorem lives9_c : Ctr Tryz.prog 18 [] [] errG (fun v M => v = .bool true ∧ M = []) := by
  refine Ctr.intro Tryz.func18 rfl Tryz.ntmps18 rfl fun x w hp => ?_
  refine wk ?_
  refine CX.callA (new_c 66) ?_
  rintro _ _ (⟨-, -, d, rfl, rfl⟩ | ⟨h, -, -⟩)
  rotate_left
  · omega
  refine wk ?_
  refine CX.callA (smake_new d 66 (by decide) (by decide)) ?_
  rintro _ _ ⟨s, p, D1, rfl, rfl, g1, hd1⟩
  refine wk ?_
  refine CX.callA (scommit_c s p d g1.g (by decide) (by decide) [] [] g1.may (by decide) (fun _ => by decide) (by decide) none none 0 0 (Nat.le_refl _) (Nat.le_refl _) (fun _ => ⟨rfl, rfl⟩)) ?_ (hpre := by exact fun y hy => ⟨⟨.inl rfl, fun _ h => by cases h⟩, errG_ex (by first | exact pickA | exact updA) hp y hy⟩)
  rw [show commitM ⟨1, HdM.z⟩ D1 (List.map RwV.m []) (List.map ChV.m []) = (0, ⟨1, HdM.z⟩, D1, []) from commit_none _ _ _]
  unfold CommitP
  rintro _ _ ⟨a2, c2, tl2, rfl, rfl, ht2, hn2, hc2, -⟩
  have htl2 : tl2 = [] := List.map_eq_nil_iff.1 ht2
  subst htl2
  refine wk ?_
  refine CX.buildSl (parts := [(0, _)]) (vs := [(0, .int .u8 7)]) (out := cb [7]) rfl rfl (by decide) (by simp [fillL, Value.cells, setL]; rfl) fun q1 => ?_
  refine CX.ps (PS.build (vs := [(0, sv [97]), (1, .slice (some ⟨q1, 0, none⟩) 1 1)]) (out := [sv [97], .slice (some ⟨q1, 0, none⟩) 1 1, .bool false]) rfl rfl rfl) ?_
  refine CX.buildSl (parts := [(0, _)]) (vs := [(0, .agg #[sv [97], .slice (some ⟨q1, 0, none⟩) 1 1, .bool false])]) (out := rows ChV.cells [⟨[97], ⟨some ⟨q1, 0, none⟩, [7], 1⟩, false⟩]) rfl rfl (by decide) (by simp [fillL, Value.cells, setL]; rfl) fun q2 => ?_
  refine CX.callA (scommit_c s p d g1.g (by decide) (by decide) [⟨[97], ⟨some ⟨q1, 0, none⟩, [7], 1⟩, false⟩] [] g1.may (by show 1 ≤ 1073741824; decide) (fun _ => by show wt [] + wl l9a ≤ 1048572; decide) (by decide) (some ⟨q2, 0, none⟩) a2 1 c2 (Nat.le_refl _) hc2 hn2) ?_ (hpre := by exact fun y hy => ⟨ch_bk (b := q2) (t := 68) (by first | exact pickA | exact updA) (fun y hy => okC1 (slb_bk (b := q1) (t := 5) (B := [7]) (by first | exact pickA | exact updA) (by decide) y hy)) y hy, errG_ex (by first | exact pickA | exact updA) hp y hy⟩)
  rw [show List.map RwV.m ([] : List RwV) = [] from rfl, show List.map ChV.m [⟨[97], ⟨some ⟨q1, 0, none⟩, [7], 1⟩, false⟩] = l9a from rfl]
  unfold CommitP
  rintro _ _ ⟨a3, c3, tl3, rfl, rfl, ht3, hn3, hc3, hw3⟩
  rcases commit_go g1 hd1 (by decide) l9a_may (by simp [l9a]) (by decide) (by rw [l9a_app]; decide) hw3 with ⟨-, h, -⟩ | ⟨bs3, J3, D3, hrm3, he3, hJ3, g3, hd3⟩
  · rw [l9a_put] at h
    have : (HdM.z).blocks = 0 := rfl
    dsimp only at h
    omega
  have hb3 : J3.h.blocks = 1 := by
    rw [g3.blocks]
    rcases hrm3 with ⟨rfl, -⟩ | ⟨-, h, -⟩
    · rw [List.nil_append, Cut_one]; exact l9a_put
    · rw [l9a_put] at h
      have : (HdM.z).blocks = 0 := rfl
      dsimp only at h
      omega
  rw [he3] at ht3 hw3 ⊢
  dsimp only at ht3 hw3 hJ3 ⊢
  rw [l9a_app] at ht3 g3
  have hl3 : tl3.length = 1 := by have := congrArg List.length ht3; simpa using this
  refine wk ?_
  (refine CX.makeB (5000) (by decide) ?_; intro q4)
  obtain ⟨Z, hZl, hZ⟩ : ∃ Z : Blk, Z.length = 5000 ∧ Z = List.replicate 5000 0 := ⟨_, List.length_replicate, rfl⟩
  rw [← hZ]
  clear hZ
  refine wk ?_
  refine CX.ps (PS.build (vs := [(0, sv [98]), (1, .slice (some ⟨q4, 0, none⟩) 5000 5000)]) (out := [sv [98], .slice (some ⟨q4, 0, none⟩) 5000 5000, .bool false]) rfl rfl rfl) ?_
  refine CX.buildSl (parts := [(0, _)]) (vs := [(0, .agg #[sv [98], .slice (some ⟨q4, 0, none⟩) 5000 5000, .bool false])]) (out := rows ChV.cells [⟨[98], ⟨some ⟨q4, 0, none⟩, Z, 5000⟩, false⟩]) rfl rfl (by decide) (by simp [fillL, Value.cells, setL, rows, ChV.cells, hZl]) fun q5 => ?_
  have hwl : wl (List.map ChV.m [⟨[98], ⟨some ⟨q4, 0, none⟩, Z, 5000⟩, false⟩]) = 5010 := by show wl [⟨[98], Z, false⟩] = 5010; rw [l9b_wl, hZl]
  refine CX.callA (scommit_c s p d g3.g (by omega) (by decide) [⟨[98], ⟨some ⟨q4, 0, none⟩, Z, 5000⟩, false⟩] tl3 (by rw [ht3]; exact g3.may) (by show 1 ≤ 1073741824; decide) (fun _ => by rw [hwl, ht3]; decide) (by rw [ht3]; decide) (some ⟨q5, 0, none⟩) a3 1 c3 (Nat.le_refl _) hc3 hn3) ?_ (hpre := by exact fun y hy => ⟨ch_bk (b := q5) (t := 68) (by first | exact pickA | exact updA) (fun y hy => okC1 (own_SlB (e := 5) (by rw [hZl]; exact Pick.ok (show Pick (own 5 1 (some ⟨q4, 0, none⟩) 5000 5000 (cb Z)) _ _ from by first | exact pickA | exact updA) hy))) y hy, errG_ex (by first | exact pickA | exact updA) hp y hy⟩)
  rw [ht3, show List.map ChV.m [⟨[98], ⟨some ⟨q4, 0, none⟩, Z, 5000⟩, false⟩] = [⟨[98], Z, false⟩] from rfl]
  rw [show List.map ChV.m [⟨[98], ⟨some ⟨q4, 0, none⟩, Z, 5000⟩, false⟩] = [⟨[98], Z, false⟩] from rfl] at hwl
  have hwt : wt (applyM [([97], [7])] [⟨[98], Z, false⟩]) = 5021 := by rw [l9b_app]; simp only [wt, hZl]; decide
  unfold CommitP
  rintro _ _ ⟨a6, c6, tl6, rfl, rfl, ht6, hn6, hc6, hw6⟩
  rcases commit_go g3 hd3 (by omega) (l9b_may Z hZl) (by simp) (by omega) (by omega) hw6 with ⟨he6, -, -⟩ | ⟨bs6, J6, D6, hrm6, -⟩
  rotate_left
  · exfalso
    rcases hrm6 with ⟨-, h⟩ | ⟨-, -, h⟩
    · rw [cut_len, put_wl, hwl] at h; omega
    · rw [wholeB_cut, hwt] at h; omega
  rw [he6] at ht6 ⊢
  dsimp only at ht6 ⊢
  have hl6 : tl6.length = 1 := by have := congrArg List.length ht6; simpa using this
  refine wk ?_
  refine CX.callA (svalue_c s p a6 tl6 c6 (by omega) (by rw [ht6]; exact g3.may) [97]) ?_
  rintro _ _ ⟨a7, B7, c7, d7, rfl, rfl, hv7, hv7'⟩
  have hval : val (tl6.map RwV.m) [97] = some [7] := by rw [ht6]; rfl
  have hd7 : d7 = true := by
    cases d7 with
    | true => rfl
    | false => rw [hval] at hv7'; cases (hv7' rfl).1
  subst hd7
  refine CX.turn (own 5 1 a7 B7.length c7 (cb B7)) (fun h s => ownF_own h s) ?_
  obtain rfl : B7 = [7] := by have := hv7 rfl; rw [hval] at this; exact (Option.some.inj this).symm
  refine wk ?_
  refine CX.callA (sopen_go d g3 (by decide)) ?_
  rintro _ _ ⟨s8, p8, a8, tl8, c8, rfl, rfl, ht8, hn8, hc8⟩
  have hl8 : tl8.length = 1 := by have := congrArg List.length ht8; simpa using this
  refine wk ?_
  refine CX.buildSl (parts := [(0, _)]) (vs := [(0, .int .u8 7)]) (out := cb [7]) rfl rfl (by decide) (by simp [fillL, Value.cells, setL]; rfl) fun q9 => ?_
  refine CX.callA (same_c [7] [7] a7 (some ⟨q9, 0, none⟩) c7 1) ?_ (hpre := by exact fun y hy => ⟨rdx_own (e := 5) (n := List.length [7]) (a := a7) (by first | exact pickA | exact updA) rfl y hy, bk_rdx (b := q9) (t := 5) (by first | exact pickA | exact updA) rfl y hy⟩)
  rw [decide_eq_true rfl]
  rintro _ _ ⟨rfl, rfl⟩
  refine wk ?_
  refine CX.callA (sroom_c s p d (.slice a6 tl6.length c6) g3.g) ?_
  rw [hb3]
  rintro _ _ ⟨rfl, rfl⟩
  refine wk ?_
  refine CX.callA (srows_c s8 p8 a8 tl8 c8 (by omega) hn8 (fun r hr => by have := (g3.may.2 r.m (by rw [← ht8]; exact List.mem_map_of_mem hr)).2.2; exact Nat.le_trans this (by decide))) ?_
  rintro _ _ ⟨a10, c10, l10, rfl, rfl, hm10⟩
  refine wk ?_
  refine CX.buildSl (parts := [(0, _)]) (vs := [(0, .int .u8 7)]) (out := cb [7]) rfl rfl (by decide) (by simp [fillL, Value.cells, setL]; rfl) fun q11 => ?_
  refine CX.ps (PS.build (vs := [(0, sv [97]), (1, .slice (some ⟨q11, 0, none⟩) 1 1)]) (out := [sv [97], .slice (some ⟨q11, 0, none⟩) 1 1]) rfl rfl rfl) ?_
  refine CX.buildSl (parts := [(0, _)]) (vs := [(0, .agg #[sv [97], .slice (some ⟨q11, 0, none⟩) 1 1])]) (out := rows RwV.cells [⟨[97], ⟨some ⟨q11, 0, none⟩, [7], 1⟩⟩]) rfl rfl (by decide) (by simp [fillL, Value.cells, setL]; rfl) fun q12 => ?_
  refine CX.turn (valR l10) vl_val ?_
  refine CX.merge (tabA a10 l10) (fun k s t => own_tab (e := 71) k s t) ?_ (p := by first | exact pickA | exact updA) (q := by first | exact pickA | exact updA)
  have hl10 : l10.length = 1 := by have := congrArg List.length hm10; simp only [List.length_map] at this; omega
  refine CX.callA (eqmR_c l10 [⟨[97], ⟨some ⟨q11, 0, none⟩, [7], 1⟩⟩] (by omega) a10 (some ⟨q12, 0, none⟩) c10 1 (by show 1 ≤ 9223372036854775806; decide)) ?_ (hpre := by exact fun y hy => ⟨rw_tab (by first | exact pickA | exact updA) y hy, rw_bk (b := q12) (t := 71) (by first | exact pickA | exact updA) (fun y hy => okR1 (slb_bk (b := q11) (t := 5) (B := [7]) (by first | exact pickA | exact updA) (by decide) y hy)) y hy⟩)
  rw [decide_eq_true (show l10.map RwV.m = List.map RwV.m [⟨[97], ⟨some ⟨q11, 0, none⟩, [7], 1⟩⟩] from hm10.trans ht8)]
  rintro _ _ ⟨rfl, rfl⟩
  refine wk ?_
  ((apply CQ.end1; (· rfl); (· exact .tmp rfl)); (· exact ⟨rfl, rfl⟩); (· exact selA))
end Go.Proofs.YtlckhaodecdbbaaGreatDoor
/-! What may be read of rows and changes. -/
namespace Go.Cx
section
variable {H : Type} {enc : TypeId × Value → H} {P : Program} {w : World} {base : Nat} {spare : Nat → Bool} {held : Bool}
theorem rec_str {t : TypeId} (ht : P.underlying t = some .string) : Rec enc P w base spare held t (fun b : Blk => b.length ≤ maxLen) (fun b => [sv b]) := fun n cs x h => by
  obtain ⟨s, rfl, _, hs⟩ := DataW.trod_string ht h
  exact ⟨s.data.toList, by simpa using hs, by simp [sv]⟩
theorem rec_boolC {t : TypeId} (ht : P.underlying t = some .bool) : Rec enc P w base spare held t (fun _ : Bool => True) (fun b => [.bool b]) := fun n cs x h => by
  obtain ⟨b, rfl, _⟩ := DataW.trod_bool ht h
  exact ⟨b, trivial, rfl⟩
end
end Go.Cx
namespace Go.Proofs.YtlckhaodecdbbaaGreatDoor
open Go.Cx
theorem rec_chg {H : Type} {enc : TypeId × Value → H} {w : World} {base : Nat} {spare : Nat → Bool} {held : Bool} :
    Rec enc Tryz.prog w base spare held 68 (fun r : ChV => r.s.ok w.ph) ChV.cells := fun n cs x h => by
  obtain ⟨hl, m, hf⟩ := trod_fields Tryz.underlying68 h
  have c1 : Tryz.prog.cellsOf 9 = 1 := by kernel_rfl
  have c2 : Tryz.prog.cellsOf 23 = 1 := by kernel_rfl
  have c3 : Tryz.prog.cellsOf 4 = 1 := by kernel_rfl
  have c4 : Tryz.prog.cellsOf 68 = 3 := by kernel_rfl
  obtain ⟨y0, e0⟩ : ∃ y, DataW.trod enc Tryz.prog w base spare held m 9 ((cs.drop 0).take (Tryz.prog.cellsOf 9)) = some y := hf 0 _ rfl
  rw [c1] at e0
  obtain ⟨y1, e1⟩ : ∃ y, DataW.trod enc Tryz.prog w base spare held m 23 ((cs.drop 1).take (Tryz.prog.cellsOf 23)) = some y := hf 1 _ rfl
  rw [c2] at e1
  obtain ⟨y2, e2⟩ : ∃ y, DataW.trod enc Tryz.prog w base spare held m 4 ((cs.drop 2).take (Tryz.prog.cellsOf 4)) = some y := hf 2 _ rfl
  rw [c3] at e2
  obtain ⟨a, wa, f0⟩ := rec_str Tryz.underlying9 _ _ _ e0
  obtain ⟨b, wb, f1⟩ := rec_bytes Tryz.underlying23 Tryz.underlying5 (by kernel_rfl) _ _ _ e1
  obtain ⟨c, wc, f2⟩ := rec_boolC Tryz.underlying4 _ _ _ e2
  refine ⟨⟨a, b, c⟩, wb, ?_⟩
  have h0 : cs = cs.drop 0 := rfl
  have hend : cs.drop (2 + 1) = [] := List.drop_of_length_le (by rw [hl, c4]; omega)
  rw [h0, drop_part cs 0 1 f0, drop_part cs (0 + 1) 1 f1, drop_part cs (0 + 1 + 1) 1 f2, show 0 + 1 + 1 + 1 = 2 + 1 by omega, hend]
  simp [ChV.cells, SlB.cells]
end Go.Proofs.YtlckhaodecdbbaaGreatDoor
/-! Lists of changes, and which are too great (layer 9's statements). -/
namespace Go.Cx
structure ChsV where
  a : Option Addr
  l : List ChV
  c : Nat
def ChsV.cells (s : ChsV) : List Value := [.slice s.a s.l.length s.c]
structure ChsV.ok (x : PH) (s : ChsV) : Prop where
  nil : s.a = none → s.l = [] ∧ s.c = 0
  le : s.l.length ≤ s.c
  max : s.c ≤ maxLen
  r : chAt s.a s.l x
theorem ChsV.ok.mono {x y : PH} {s : ChsV} (h : s.ok x) (l : Le x y) : s.ok y := ⟨h.nil, h.le, h.max, chAt_mono h.r l⟩
def clAt (a : Option Addr) (l : List ChsV) (x : PH) : Prop := rdx a (l.length * 1) (rows ChsV.cells l) x ∧ ∀ r ∈ l, r.ok x
theorem cl_len (l : List ChsV) : ∀ y ∈ l, (ChsV.cells y).length = 1 := fun _ _ => rfl
theorem clAt.cell {L L' : List Assn} {x : PH} {g off i : Nat} {l : List ChsV} (h : clAt (some ⟨g, off, none⟩) l x) (p : Pick (exact x) L L') (hi : i < l.length) : CellAt L g (off + i * 1) (.slice (l[i]).a (l[i]).l.length (l[i]).c) :=
  fun y hy => by
    obtain ⟨cs, t, fr, e, hc⟩ := CellsAt.row p h.1 (by omega) (cl_len l) hi y hy
    exact ⟨cs, t, fr, e, by simpa using hc 0 _ rfl⟩
def vsum (l : List ChV) : Nat := (l.map fun r => r.s.b.length).sum
theorem vsum_take {l : List ChV} {i : Nat} (h : i < l.length) : vsum (l.take (i + 1)) = vsum (l.take i) + (l[i]).s.b.length := by
  unfold vsum
  rw [List.take_add_one, List.getElem?_eq_getElem h]
  simp only [List.map_append, List.sum_append, Option.toList_some, List.map_cons, List.map_nil, List.sum_cons, List.sum_nil, Nat.add_zero]
theorem vsum_le {l : List ChV} (h : ∀ r ∈ l, r.s.b.length ≤ 1048576) (i : Nat) : vsum (l.take i) ≤ i * 1048576 := by
  induction i with
  | zero => simp [vsum]
  | succ i ih =>
    by_cases hi : i < l.length
    · rw [vsum_take hi]; have := h _ (List.getElem_mem hi); omega
    · have e : l.take (i + 1) = l.take i := (List.take_of_length_le (by omega)).trans (List.take_of_length_le (by omega)).symm
      rw [e]
      exact Nat.le_trans ih (Nat.mul_le_mul_right _ (Nat.le_succ i))
/-- What is not too great. -/
def SmallC (l : List ChV) : Prop := l.length ≤ 200 ∧ ((∀ r ∈ l, r.s.b.length ≤ 1048576) → vsum l ≤ 20000)
theorem SmallC.wl {l : List ChV} (h : SmallC l) (m : MayC (l.map ChV.m)) : Cx.wl (l.map ChV.m) ≤ 25000 := by
  have h1 := wl_small m.2
  rw [List.length_map] at h1
  have h2 : ((l.map ChV.m).map fun c => c.val.length).sum = vsum l := by unfold vsum; rw [List.map_map]; rfl
  have h3 := h.2 fun r hr => (m.2 _ (List.mem_map_of_mem hr)).v
  have := h.1
  omega
end Go.Cx
namespace Go.Proofs.YtlckhaodecdbbaaGreatDoor
open Go.Cx
attribute [local irreducible] Go.Cx.CX Go.Cx.CC Go.Cx.CQ Go.Cx.PS Go.Cx.Ctr Go.Cx.CH
set_option maxRecDepth 10000
theorem great_c (a : Option Addr) (l : List ChV) (c : Nat) (hl : l.length ≤ maxLen) : Ctr Tryz.prog 10 [.slice a l.length c] [] (fun x => chAt a l x) (fun v M => ∃ g : Bool, v = .bool g ∧ M = [] ∧ (g = false → SmallC l)) := by
  have hmx : maxLen = 9223372036854775807 := by decide
  refine Ctr.intro Tryz.func10 rfl Tryz.ntmps10 rfl fun x w hp => ?_
  refine wk ?_
  refine CC.loop (X := Nat × Int) (fun s => [(4, .int .i64 (s.1 : Int)), (3, .int .i64 s.2), (0, .slice a l.length c)]) (fun s => [exact x]) (fun s => s.1 ≤ l.length ∧ ((∀ r ∈ l, r.s.b.length ≤ 1048576) → s.1 ≤ 200 → s.2 = (vsum (l.take s.1) : Nat))) (fun s => l.length - s.1)
    (0, 0) ⟨Nat.zero_le _, fun _ _ => rfl⟩ ⟨rfl, rfl, rfl, trivial⟩ (by exact selA) ?_
  rintro ⟨i, n⟩ ⟨hi, hs⟩
  dsimp only at hi hs ⊢
  by_cases h1 : i < l.length
  · obtain ⟨g, off, rfl⟩ := chAt_some hp (by omega)
    refine wk ?_
    (refine CX.indexA (i) ?_ ?_; (· exact h1))
    refine wk ?_
    (apply CX.ps; (· apply PS.load (v := .slice (l[i]).s.a (l[i]).s.b.length (l[i]).s.c); (· rfl); (· rfl); (· exact hp.cell (by first | exact pickA | exact updA) h1 1 rfl)))
    refine wk ?_
    refine CX.ps (PS.add (z := IntKind.i64.wrap (n + ((l[i]).s.b.length : Int))) rfl rfl rfl rfl) ?_
    refine wk ?_
    exact CQ.round (x := (i, n)) (i + 1, IntKind.i64.wrap (n + ((l[i]).s.b.length : Int))) ⟨h1, fun hb h2 => by
      dsimp only at h2 ⊢
      have h3 := vsum_le hb (i + 1)
      rw [hs hb (by omega), vsum_take h1] at *
      rw [wr_i64 (by omega) (by omega)]
      simp⟩ (by dsimp only; omega) ⟨eqI (by omega), rfl, rfl, trivial⟩ (by exact selA)
  · obtain rfl : i = l.length := by omega
    rw [List.take_length] at hs
    by_cases h2 : 20000 < n
    · refine wk ?_
      (apply CQ.end1; (· rfl); (· exact .tmp rfl))
      · exact ⟨true, rfl, rfl, fun h => by cases h⟩
      · exact selA
    · by_cases h3 : 200 < l.length
      · refine wk ?_
        (apply CQ.end1; (· rfl); (· exact .tmp rfl))
        · exact ⟨true, rfl, rfl, fun h => by cases h⟩
        · exact selA
      · refine wk ?_
        (apply CQ.end1; (· rfl); (· exact .tmp rfl))
        · exact ⟨false, rfl, rfl, fun _ => ⟨by omega, fun hb => by have := hs hb (by omega); omega⟩⟩
        · exact selA
theorem rec_chs {H : Type} {enc : TypeId × Value → H} {w : World} {base : Nat} {spare : Nat → Bool} {held : Bool} :
    Rec enc Tryz.prog w base spare held 34 (fun r : ChsV => r.ok w.ph) ChsV.cells := fun n cs x h => by
  obtain ⟨b, l, c, rfl, hg, hnil, hle, hmax, hx⟩ := open_rows (sz := 3) Tryz.underlying34 (by kernel_rfl) (by decide) rec_chg h
  exact ⟨⟨b, l, c⟩, ⟨hnil, hle, hmax, hx, fun r hr => (hg r hr).1⟩, rfl⟩
end Go.Proofs.YtlckhaodecdbbaaGreatDoor
/-! The statement StoreSame, in the program. -/
namespace Go.Cx
theorem CX.share {P : Program} {n : Nat} {e0 : World} {X : Type} (E : X → Env) (M : X → List Assn) (good : X → Prop) {ops : Array Oper} {rest : List Oper} {Q : Exit → Act → World → Prop} {goal : Prop}
    (h1 : (∀ s, good s → CX P ops Q n e0 (E s) (M s) rest) → goal) (h2 : ∀ s, good s → CX P ops Q n e0 (E s) (M s) rest) : goal := h1 h2
abbrev StQ := JM × DS × Option Addr × Nat × List RwV
/-- Two stores that hold the same table. -/
structure SameG (n i : Nat) (q1 q2 : StQ) (bs1 bs2 : List Blk) (t : Tab) : Prop where
  g1 : GoodS 4096 (2060 + i * 2060) q1.2.1 q1.1 bs1 t
  g2 : GoodS (1000 + n) (2060 + i * 2060) q2.2.1 q2.1 bs2 t
  l1 : q1.2.1.left = 0
  l2 : q2.2.1.left = 0
  j1 : q1.1.n ≤ i + 1
  j2 : q2.1.n ≤ i + 1
  w : wt t ≤ i * 25000
  t1 : q1.2.2.2.2.map RwV.m = t
  t2 : q2.2.2.2.2.map RwV.m = t
  n1 : q1.2.2.1 = none → q1.2.2.2.2.length = 0 ∧ q1.2.2.2.1 = 0
  c1 : q1.2.2.2.2.length ≤ q1.2.2.2.1
  n2 : q2.2.2.1 = none → q2.2.2.2.2.length = 0 ∧ q2.2.2.2.1 = 0
  c2 : q2.2.2.2.2.length ≤ q2.2.2.2.1
theorem SameG.up {n i : Nat} {q1 q2 : StQ} {bs1 bs2 : List Blk} {t : Tab} (h : SameG n i q1 q2 bs1 bs2 t) : SameG n (i + 1) q1 q2 bs1 bs2 t :=
  ⟨h.g1.up (by omega), h.g2.up (by omega), h.l1, h.l2, by have := h.j1; omega, by have := h.j2; omega, Nat.le_trans h.w (Nat.mul_le_mul_right _ (Nat.le_succ i)), h.t1, h.t2, h.n1, h.c1, h.n2, h.c2⟩
theorem may_small {tl : List RwV} (h : MayR (tl.map RwV.m)) : ∀ r ∈ tl, r.s.b.length ≤ 1073741824 := fun r hr => Nat.le_trans (h.2 r.m (List.mem_map_of_mem hr)).2.2 (by decide)
theorem wt_len' {tl : List RwV} {t : Tab} (h : tl.map RwV.m = t) : tl.length ≤ wt t := by have := wt_len t; rw [← h, List.length_map] at this; rw [← h]; exact this
end Go.Cx
namespace Go.Proofs.YtlckhaodecdbbaaGreatDoor
open Go.Cx
attribute [local irreducible] Go.Cx.CX Go.Cx.CC Go.Cx.CQ Go.Cx.PS Go.Cx.Ctr Go.Cx.CH
set_option maxRecDepth 10000
theorem srowsT_c (s p : Nat) (a : Option Addr) (tl : List RwV) (c : Nat) (hl : tl.length ≤ 1073741824) (hn : a = none → tl.length = 0 ∧ c = 0) (hv : ∀ r ∈ tl, r.s.b.length ≤ 1073741824) : Ctr Tryz.prog 17 [.pointer (some ⟨s, 0, none⟩)] [bk s 79 (stc p a tl.length c), tabA a tl] (fun _ => True)
    (fun v M => ∃ a' c' l, v = .slice a' (List.length l) c' ∧ M = [bk s 79 (stc p a tl.length c), tabA a tl, tabA a' l] ∧ l.map RwV.m = tl.map RwV.m) := by
  refine Ctr.conseq (srows_c s p a tl c hl hn hv) fun v M hv => ?_
  obtain ⟨a', c', l, rfl, rfl, hm⟩ := hv
  refine ⟨_, ⟨a', c', l, rfl, rfl, hm⟩, fun x h hs => ?_⟩
  have s1 := Sep.merge' (A := own 71 2 a' l.length c' (rows RwV.cells l)) (B := sepA (vl 5 l)) (C := tabA a' l) (.tail (.tail (.head _))) (.tail (.tail (.head _))) (fun k p q => own_tab (e := 71) k p (vl_val k q)) hs
  exact (Sel.sep (H := [bk s 79 (stc p a tl.length c), tabA a tl, tabA a' l]) (.cons (.tail (.head _)) (.cons (.tail (.head _)) (.cons (.head _) (.nil _)))) s1)
end Go.Proofs.YtlckhaodecdbbaaGreatDoor
/-! The document's journal (ref 07): which batches count, in the program. -/
namespace Go.Cx
theorem lit_read {D : DS} (hd : D.dark = false) {k : Nat} (hk : k < D.sure.length) : D.read (k : Int) = (D.get k, 0) := by
  have e : D.lit (k : Int) = 0 := by
    unfold DS.lit DS.there errOf
    rw [hd, if_neg (by simp), if_pos (by omega)]
  unfold DS.read
  rw [e]
  simp
theorem lit_at {D : DS} (hd : D.dark = false) {b i : Nat} (hb : b < 2) (hl : 64 ≤ D.sure.length) (hi : i < bankM D) : (D.read ((firstM D b : Int) + (i : Int))).2 = 0 := by
  have : firstM D b + i < D.sure.length := by
    unfold firstM bankM at *
    have h1 : b = 0 ∨ b = 1 := by omega
    rcases h1 with rfl | rfl <;> omega
  rw [show ((firstM D b : Nat) : Int) + (i : Int) = ((firstM D b + i : Nat) : Int) by omega, lit_read hd this]
theorem upB_eq {n z : Nat} (h1 : n ≤ z) (h2 : z ≤ upB n) (h3 : z % 128 = 0) : z = upB n := by
  unfold upB at *; omega
end Go.Cx
namespace Go.Proofs.YtlckhaodecdbbaaGreatDoor
open Go.Cx
attribute [local irreducible] Go.Cx.CX Go.Cx.CC Go.Cx.CQ Go.Cx.PS Go.Cx.Ctr Go.Cx.CH
set_option maxRecDepth 10000
/-- Which batches count, as the document has it. -/
def RBatP (q r : Nat) (h : HdM) (D : DS) (v : Value) (M : List Assn) : Prop :=
  ∃ a c l ok, v = .tuple #[.slice a l.length c, .bool ok] ∧ M = [rjA q r, rdisk r D, bsA a l] ∧ l.length ≤ 4294967296 ∧ ((readM ⟨0, h⟩ D).2 = 0 → ok = true ∧ l.map SlB.b = (readM ⟨0, h⟩ D).1) ∧ ((readM ⟨0, h⟩ D).2 ≠ 0 → ok = false)
set_option maxHeartbeats 1000000 in
theorem r7batches_c (q r : Nat) (hd' : HdM) (hm : hd'.may) (D : DS) {N : Nat} (h : D.wf N) (hN : N < 1000000) (hlit : D.dark = false) : Ctr Tryz.prog 112 [.pointer (some ⟨q, 0, none⟩), .agg (hc hd').toArray] [rjA q r, rdisk r D] (fun _ => True)
    (RBatP q r hd' D) := by
  unfold RBatP
  obtain ⟨m1, m2, m3⟩ := hm
  have h1 := h.lo
  have h2 := h.hi
  have hbank : bankM D ≤ 2048 := by unfold bankM; omega
  have hmul : hd'.bank * bankM D ≤ 2 * 2048 := Nat.mul_le_mul (by omega) hbank
  have hfst : firstM D hd'.bank ≤ 4098 := by unfold firstM; omega
  refine Ctr.intro Tryz.func112 rfl Tryz.ntmps112 rfl fun x w hp => ?_
  refine wk ?_
  (refine CX.boxA (vs := hc hd') ?_; intro q3)
  refine wk ?_
  refine CC.draw [(0, 0), (1, 1), (2, 0), (3, 0), (4, 2), (5, 0)] mixed rfl (by kernel_rfl) (by kernel_rfl) [bk q3 121 (hc hd')] ?_
  refine hwk ?_
  refine CH.chain rfl fun K hK => ?_
  refine CX.callA (r7bank_c q r D h) ?_
  rintro _ _ ⟨rfl, rfl⟩
  (refine CX.nil ?_; refine CQ.thenK ?_; apply hK; (· exact selA); clear hK K)
  by_cases h0 : bankM D < hd'.blocks
  · rw [show readM ⟨0, hd'⟩ D = ([], 5) by unfold readM; rw [if_pos h0]]
    refine hwk ?_
    refine wk ?_
    refine CQ.give (bsA none []) bs_nil ?_
    (apply CQ.end2; (· rfl); (· exact .tmp rfl); (· exact .tmp rfl))
    · exact ⟨none, 0, [], false, rfl, rfl, by decide, (fun h => by cases h), fun _ => rfl⟩
    · exact selA
  have hrd : readM ⟨0, hd'⟩ D = if (rdAll D (firstM D hd'.bank) 0 hd'.blocks []).2 ≠ 0 then ([], (rdAll D (firstM D hd'.bank) 0 hd'.blocks []).2) else parseM hd'.batches [] (rdAll D (firstM D hd'.bank) 0 hd'.blocks []).1 := by
    unfold readM; rw [if_neg h0]
  refine hwk ?_
  refine wk ?_
  refine CC.ownNil 5 1 ?_
  refine CC.loop (X := Nat × Option Addr × Nat × Blk) (fun s => [(7, .int .i64 (s.1 : Int)), (0, .pointer (some ⟨q, 0, none⟩)), (3, .pointer (some ⟨q3, 0, none⟩)), (6, .slice s.2.1 s.2.2.2.length s.2.2.1)])
    (fun s => [own 5 1 s.2.1 s.2.2.2.length s.2.2.1 (cb s.2.2.2), bk q3 121 (hc hd'), rjA q r, rdisk r D, exact x])
    (fun s => s.1 ≤ hd'.blocks ∧ s.2.2.2.length = s.1 * 128 ∧ rdAll D (firstM D hd'.bank) 0 hd'.blocks [] = rdAll D (firstM D hd'.bank) s.1 (hd'.blocks - s.1) s.2.2.2) (fun s => hd'.blocks - s.1) (0, none, 0, []) ⟨Nat.zero_le _, rfl, rfl⟩ ⟨rfl, rfl, rfl, rfl, trivial⟩ (by exact selA) ?_
  rintro ⟨i, a4, c4, acc⟩ ⟨hi, hacc, hall⟩
  dsimp only at hi hacc hall ⊢
  by_cases h1 : i < hd'.blocks
  · rw [show hd'.blocks - i = (hd'.blocks - (i + 1)) + 1 by omega] at hall
    have hw := read_WB h ((firstM D hd'.bank : Int) + (i : Int))
    have hgo := rdAll_go (D := D) (f := firstM D hd'.bank) (i := i) (n := hd'.blocks - (i + 1)) (acc := acc) (lit_at hlit m1 (by omega) (by omega))
    rw [hgo] at hall
    have hread := r7read_c q r D ((firstM D hd'.bank : Int) + (i : Int)) h hN
    have hfirst := r7first_c q r D hd'.bank (by omega) h
    generalize (D.read ((firstM D hd'.bank : Int) + (i : Int))).1 = u at *
    refine wk ?_
    refine CX.callA (hfirst) ?_
    rintro _ _ ⟨rfl, rfl⟩
    refine wk ?_
    refine CX.callA (hread) ?_
    rintro _ _ ⟨rfl, rfl⟩
    refine CX.allocZ (cb zblk) ?_
    intro q8
    (apply CX.storeAll; (· rfl); (· rfl); (· rfl); (· first | exact pickA | exact updA); (· exact hw.len); (· exact WB_z.len); (· exact one_cb _))
    refine wk ?_
    refine CX.ps (PS.sliceArr (l := 0) (h := 128) rfl rfl rfl rfl (.inl ⟨rfl, rfl⟩) (.inl ⟨rfl, rfl⟩) (by omega) (by omega)) ?_
    rw [cutAt_zero]
    refine CX.append (m := 128 - 0) (news := cb u) rfl rfl rfl (by first | exact pickA | exact updA) (RdS.pick (b := q8) (o := 0) (by first | exact pickA | exact updA) hw.len (one_cb _) (by rw [List.drop_zero, List.take_of_length_le (by rw [hw.len]; omega)])) (by omega) (fun h => by cases h) ?_
    intro a5 c5
    rw [← cb_append]
    have hul : u.length = 128 := hw
    refine wk ?_
    exact CQ.round (x := (i, a4, c4, acc)) (i + 1, a5, c5, acc ++ u) ⟨by dsimp only; omega, by simp [hul]; omega, hall⟩ (by dsimp only; omega) ⟨eqI (by simp), rfl, rfl, slE (by simp [hul]), trivial⟩ (by simp only [List.length_append, hul]; exact selA)
  obtain rfl : i = hd'.blocks := by omega
  rw [Nat.sub_self, rdAll] at hall
  rw [hall, if_neg (by simp)] at hrd
  dsimp only at hrd
  refine CC.fact (own_none (e := 5) (sz := 1) (by first | exact pickA | exact updA)) ?_
  rintro ⟨-, hc4, -⟩
  refine wk ?_
  refine CC.turn (rd a4 acc.length (cb acc)) (own_rd (e := 5) (c := c4)) ?_
  refine CC.ownNil 23 1 ?_
  refine CC.give (valS []) (fun _ => valS_ok.2 fun _ h => by cases h) ?_
  refine CC.loop (X := Nat × Option Addr × Nat × Blk × Option Addr × Nat × List SlB) (fun s => [(10, .int .i64 (s.1 : Int)), (0, .pointer (some ⟨q, 0, none⟩)), (3, .pointer (some ⟨q3, 0, none⟩)), (6, .slice s.2.1 s.2.2.2.1.length s.2.2.1), (9, .slice s.2.2.2.2.1 s.2.2.2.2.2.2.length s.2.2.2.2.2.1)])
    (fun s => [rd s.2.1 s.2.2.2.1.length (cb s.2.2.2.1), own 23 1 s.2.2.2.2.1 s.2.2.2.2.2.2.length s.2.2.2.2.2.1 (rows SlB.cells s.2.2.2.2.2.2), valS s.2.2.2.2.2.2, bk q3 121 (hc hd'), rjA q r, rdisk r D, exact x])
    (fun s => s.1 ≤ hd'.batches ∧ s.2.2.2.1.length ≤ s.2.2.1 ∧ s.2.2.2.1.length % 128 = 0 ∧ s.2.2.2.1.length ≤ 1048576 ∧ readM ⟨0, hd'⟩ D = parseM (hd'.batches - s.1) (s.2.2.2.2.2.2.map SlB.b) s.2.2.2.1 ∧ s.2.2.2.2.2.2.length ≤ s.1) (fun s => hd'.batches - s.1) (0, a4, c4, acc, none, 0, [])
    ⟨Nat.zero_le _, hc4, by dsimp only; omega, by dsimp only; omega, hrd, Nat.le_refl _⟩ ⟨rfl, rfl, rfl, rfl, rfl, trivial⟩ (by exact selA) ?_
  rintro ⟨j, av, cv, rem, a8, c8, l⟩ ⟨hj, hcv, hm, hrl, hpm, hlj⟩
  dsimp only at hj hcv hm hrl hpm hlj ⊢
  by_cases h1 : j < hd'.batches
  · rw [show hd'.batches - j = (hd'.batches - (j + 1)) + 1 by omega, parseM] at hpm
    have hgr := r1getrow_c rem (by omega) av cv hcv 0 1048576 (by decide) (by decide)
    unfold GotRow at hgr
    by_cases he : (Cx.rowAt rem 0 1048576).2.2 = 0
    rotate_left
    · rw [if_pos he] at hpm
      rw [hpm]
      generalize Cx.rowAt rem 0 1048576 = ro at *
      refine wk ?_
      refine CX.callA (hgr) ?_ (hpre := by exact rdx_rd (by first | exact pickA | exact updA))
      rintro _ _ ⟨a9, c9, rfl, rfl⟩
      refine wk ?_
      refine CQ.give (bsA none []) bs_nil ?_
      (apply CQ.end2; (· rfl); (· exact .tmp rfl); (· exact .tmp rfl))
      · exact ⟨none, 0, [], false, rfl, rfl, by decide, (fun h => by cases h), fun _ => rfl⟩
      · exact selA
    obtain ⟨-, hnx, hnl, hr1, -⟩ := rowAt_inv (b := rem) (r := (Cx.rowAt rem 0 1048576).1) (at_ := 0) (most := 1048576) (nx := (Cx.rowAt rem 0 1048576).2.1) (by rw [← he])
    rw [if_neg (by simp [he])] at hpm
    generalize Cx.rowAt rem 0 1048576 = ro at *
    have hge := upB_ge ro.2.1
    have hle := upB_le hnl hm
    rw [he] at hgr
    refine CC.fact (p := ∃ g o, av = some ⟨g, o, none⟩) (fun y hy => rdx_some (rd_ok.1 (Pick.ok (show Pick (rd av rem.length (cb rem)) _ _ from by first | exact pickA | exact updA) hy)) (by omega)) ?_
    rintro ⟨g, o, rfl⟩
    refine wk ?_
    refine CX.callA (hgr) ?_ (hpre := by exact rdx_rd (by first | exact pickA | exact updA))
    rintro _ _ ⟨a9, c9, rfl, rfl⟩
    refine wk ?_
    refine CC.loop (X := Nat) (fun z => [(12, .int .i64 (z : Int)), (11, .slice a9 ro.1.length c9), (10, .int .i64 (j : Int)), (0, .pointer (some ⟨q, 0, none⟩)), (3, .pointer (some ⟨q3, 0, none⟩)), (6, .slice (some ⟨g, o, none⟩) rem.length cv), (9, .slice a8 l.length c8)])
      (fun _ => [own 5 1 a9 ro.1.length c9 (cb ro.1), rd (some ⟨g, o, none⟩) rem.length (cb rem), own 23 1 a8 l.length c8 (rows SlB.cells l), valS l, bk q3 121 (hc hd'), rjA q r, rdisk r D, exact x])
      (fun z => ro.2.1 ≤ z ∧ z ≤ upB ro.2.1 ∧ ∀ k (hk : k < rem.length), ro.2.1 ≤ k → k < z → rem[k] = 0) (fun z => upB ro.2.1 - z) ro.2.1 ⟨Nat.le_refl _, hge, fun k _ h1 h2 => by omega⟩ ⟨rfl, rfl, rfl, rfl, rfl, rfl, rfl, trivial⟩ (by exact selA) ?_
    rintro z ⟨hz1, hz2, hz3⟩
    have hz0 : z % 128 < 128 := Nat.mod_lt _ (by omega)
    by_cases h7 : z % 128 = 0
    rotate_left
    · have hzl : z < upB ro.2.1 := by
        have : upB ro.2.1 % 128 = 0 := by unfold upB; omega
        have hne : z ≠ upB ro.2.1 := fun e => h7 (by rw [e]; exact this)
        omega
      have hzr : z < rem.length := by omega
      have hcell : ∀ {L L' : List Assn}, Pick (rd (some ⟨g, o, none⟩) rem.length (cb rem)) L L' → CellAt L g (o + z * 1) (.int .u8 (rem[z].toNat : Int)) := fun pk y hy => by
        rcases rdx_rd pk y hy with h0 | ⟨g', o', cs, t, fr, e, hx, hc⟩
        · omega
        · simp only [Option.some.injEq, Addr.mk.injEq, and_true] at e
          obtain ⟨rfl, rfl⟩ := e
          exact ⟨cs, t, fr, hx, by rw [Nat.mul_one]; exact hc z _ (cb_get rem z hzr)⟩
      have h7' : ¬ ((z % 128 : Nat) : Int) = 0 := by omega
      generalize hzm : z % 128 = zm at *
      by_cases h8 : rem[z] = 0
      · rw [h8] at hcell
        refine wk ?_
        refine CX.ps (PS.rem (z := ((z % 128 : Nat) : Int)) rfl rfl rfl (by decide) (tmod_nn (by omega))) ?_
        rw [hzm]
        refine wk ?_
        (refine CX.indexA (z) ?_ ?_; (· exact hzr))
        (apply CX.ps; (· apply PS.load (v := .int .u8 ((0 : UInt8).toNat : Int)); (· rfl); (· rfl); (· exact hcell (by first | exact pickA | exact updA))))
        refine wk ?_
        exact CQ.round (z + 1) ⟨by omega, hzl, fun k hk h1 h2 => by
          by_cases e : k < z
          · exact hz3 k hk h1 e
          · obtain rfl : k = z := by omega
            exact h8⟩ (by omega) ⟨eqI (by omega), rfl, rfl, rfl, rfl, rfl, rfl, trivial⟩ (by exact selA)
      · have hne := u8_ne h8
        have hex : ∃ c ∈ (rem.drop ro.2.1).take (upB ro.2.1 - ro.2.1), c ≠ 0 := ⟨rem[z], by
          rw [List.mem_iff_getElem]
          refine ⟨z - ro.2.1, by simp; omega, ?_⟩
          simp only [List.getElem_take, List.getElem_drop]
          congr 1; omega, h8⟩
        rw [if_pos hex] at hpm
        rw [hpm]
        refine wk ?_
        refine CX.ps (PS.rem (z := ((z % 128 : Nat) : Int)) rfl rfl rfl (by decide) (tmod_nn (by omega))) ?_
        rw [hzm]
        refine wk ?_
        (refine CX.indexA (z) ?_ ?_; (· exact hzr))
        (apply CX.ps; (· apply PS.load (v := .int .u8 (rem[z].toNat : Int)); (· rfl); (· rfl); (· exact hcell (by first | exact pickA | exact updA))))
        refine wk ?_
        refine CQ.give (bsA none []) bs_nil ?_
        (apply CQ.end2; (· rfl); (· exact .tmp rfl); (· exact .tmp rfl))
        · exact ⟨none, 0, [], false, rfl, rfl, by decide, (fun h => by cases h), fun _ => rfl⟩
        · exact selA
    have hzu := upB_eq hz1 hz2 h7
    have hnone : ¬ ∃ c ∈ (rem.drop ro.2.1).take (upB ro.2.1 - ro.2.1), c ≠ 0 := by
      rintro ⟨c, hc, hn⟩
      rw [List.mem_iff_getElem] at hc
      obtain ⟨k, hk, rfl⟩ := hc
      simp only [List.length_take, List.length_drop] at hk
      simp only [List.getElem_take, List.getElem_drop] at hn
      exact hn (hz3 _ (by omega) (by omega) (by omega))
    rw [if_neg hnone] at hpm
    have h7' : ((z % 128 : Nat) : Int) = 0 := by omega
    refine wk ?_
    refine CX.ps (PS.rem (z := ((z % 128 : Nat) : Int)) rfl rfl rfl (by decide) (tmod_nn (by omega))) ?_
    refine wk ?_
    refine CX.buildSl (parts := [(0, _)]) (vs := [(0, .slice a9 ro.1.length c9)]) (out := [.slice a9 ro.1.length c9]) rfl rfl (by decide) (by simp [fillL, Value.cells, setL]) fun bq => ?_
    refine CX.append (m := 1) (news := [.slice a9 ro.1.length c9]) rfl rfl rfl (by first | exact pickA | exact updA) (RdS.pick (b := bq) (o := 0) (by first | exact pickA | exact updA) rfl (one_all rfl) rfl) (by omega) (fun h => by cases h) ?_
    intro a10 c10
    refine CX.merge (valS (l ++ [⟨a9, ro.1, c9⟩])) valS_snoc ?_
    refine wk ?_
    refine CX.ps (PS.sliceLo (l := upB ro.2.1) rfl rfl rfl (by rw [hzu]) hle hcv) ?_
    refine wk ?_
    refine CQ.turn (rd (some ⟨g, if cv = upB ro.2.1 then o else o + upB ro.2.1 * 1, none⟩) (rem.length - upB ro.2.1) (cb (rem.drop (upB ro.2.1)))) (fun y s => rd_ok.2 (rdx_cut (rd_ok.1 s) rfl hle hcv)) ?_
    exact CQ.round (x := (j, some ⟨g, o, none⟩, cv, rem, a8, c8, l)) (j + 1, some ⟨g, if cv = upB ro.2.1 then o else o + upB ro.2.1 * 1, none⟩, cv - upB ro.2.1, rem.drop (upB ro.2.1), a10, c10, l ++ [⟨a9, ro.1, c9⟩]) ⟨by dsimp only; omega, by simp; omega, by simp [upB] at hle ⊢; omega, by simp; omega, by dsimp only; rw [List.map_append]; exact hpm, by simp; omega⟩ (by dsimp only; omega) ⟨eqI (by simp), rfl, rfl, slE (by simp), slE (by simp), trivial⟩ (by simp only [List.length_append, List.length_drop, rows_append]; exact selA)
  obtain rfl : j = hd'.batches := by omega
  rw [Nat.sub_self, parseM] at hpm
  have hl32 : l.length ≤ 4294967296 := by omega
  by_cases h3 : 0 < rem.length
  · rw [if_pos h3] at hpm
    rw [hpm]
    refine wk ?_
    refine CQ.merge (bsA a8 l) own_bs ?_
    (apply CQ.end2; (· rfl); (· exact .tmp rfl); (· exact .tmp rfl))
    · exact ⟨a8, c8, l, false, rfl, rfl, hl32, (fun h => by cases h), fun _ => rfl⟩
    · exact selA
  · rw [if_neg h3] at hpm
    rw [hpm]
    have h4 : (rem.length : Int) = 0 := by omega
    refine wk ?_
    refine CQ.merge (bsA a8 l) own_bs ?_
    (apply CQ.end2; (· rfl); (· exact .tmp rfl); (· exact .tmp rfl))
    · exact ⟨a8, c8, l, true, rfl, rfl, hl32, fun _ => ⟨rfl, rfl⟩, fun h => absurd rfl h⟩
    · exact selA
end Go.Proofs.YtlckhaodecdbbaaGreatDoor
/-! The document's journal (ref 07): a batch's blocks, and laying, in the program. -/
namespace Go.Cx
/-- The first j bytes of a block from a place on. -/
theorem part_next {R : Blk} {k j : Nat} (hj : j < 128) (hk : k * 128 + j < R.length) : setL (cb (padB 128 ((R.drop (k * 128)).take j))) (0 + j * 1) [.int .u8 ((R[k * 128 + j]).toNat : Int)] = cb (padB 128 ((R.drop (k * 128)).take (j + 1))) := by
  have e : [Value.int .u8 ((R[k * 128 + j]).toNat : Int)] = cb [R[k * 128 + j]] := rfl
  have hl : ((R.drop (k * 128)).take j).length = j := by simp; omega
  rw [e, cb_setL, Nat.zero_add, Nat.mul_one]
  congr 1
  have e2 : (R.drop (k * 128)).take (j + 1) = (R.drop (k * 128)).take j ++ [R[k * 128 + j]] := by
    rw [List.take_succ_eq_append_getElem (by simp; omega)]; simp
  rw [e2]
  unfold padB
  rw [List.length_append, List.length_singleton, hl, List.take_append_of_le_length (by omega), List.take_of_length_le (by omega), List.append_assoc]
  congr 2
  rw [List.drop_append, List.drop_of_length_le (by omega), hl, List.nil_append, List.drop_replicate]
  congr 1; omega
end Go.Cx
namespace Go.Proofs.YtlckhaodecdbbaaGreatDoor
open Go.Cx
attribute [local irreducible] Go.Cx.CX Go.Cx.CC Go.Cx.CQ Go.Cx.PS Go.Cx.Ctr Go.Cx.CH
set_option maxRecDepth 10000
theorem r7blocks_c (B : Blk) (hB : B.length ≤ 1048576) (a : Option Addr) (cap : Nat) (hn : a = none → B.length = 0 ∧ cap = 0) : Ctr Tryz.prog 101 [.slice a B.length cap] [] (fun x => rdx a B.length (cb B) x)
    (fun v M => ∃ a' c', v = .slice a' (cutB B).length c' ∧ M = [own 59 128 a' (cutB B).length c' (flat (cutB B))]) := by
  have hRl : (rowB B).length = 4 + B.length := rowB_length B
  have hlen : (cutB B).length = (4 + B.length + 127) / 128 := by rw [cut_len]; congr 1; omega
  refine Ctr.intro Tryz.func101 rfl Tryz.ntmps101 rfl fun x w hp => ?_
  refine wk ?_
  refine CX.callA (r1row_c B (by omega) a cap hn) ?_ (hpre := by exact rdx_ex (by first | exact pickA | exact updA) hp)
  rintro _ _ ⟨g, c, rfl, rfl⟩
  rw [← hRl]
  have hX : ∀ k (hk : k < (cutB B).length), (cutB B)[k] = padB 128 (((rowB B).drop (k * 128)).take 128) := fun k hk => chop_at (rowB B) k hk
  have hW : ∀ b ∈ cutB B, WB b := chop_WB _
  have hlenR : (cutB B).length = ((rowB B).length + 127) / 128 := by rw [hRl]; exact hlen
  have hRle : (rowB B).length ≤ 2000000 := by omega
  generalize cutB B = l at *
  generalize rowB B = R at *
  clear hRl hlen hn hp hB
  refine CX.ownNil 59 128 ?_
  refine wk ?_
  refine CC.loop (X := Nat × Option Addr × Nat) (fun s => [(5, .int .i64 ((s.1 * 128 : Nat) : Int)), (3, .slice (some ⟨g, 0, none⟩) R.length c), (4, .slice s.2.1 s.1 s.2.2)])
    (fun s => [own 59 128 s.2.1 s.1 s.2.2 (flat (l.take s.1)), own 5 1 (some ⟨g, 0, none⟩) R.length c (cb R), exact x]) (fun s => s.1 ≤ l.length) (fun s => l.length - s.1) (0, none, 0) (Nat.zero_le _) ⟨rfl, rfl, rfl, trivial⟩ (by exact selA) ?_
  rintro ⟨k, a4, c4⟩ hk
  dsimp only at hk ⊢
  by_cases h1 : k < l.length
  · have h2 : k * 128 < R.length := by omega
    have hXk := hX k h1
    have hWk := hW l[k] (List.getElem_mem h1)
    refine wk ?_
    refine CX.allocZ (cb zblk) ?_
    intro q
    refine wk ?_
    refine CC.loop (X := Nat) (fun j => [(7, .int .i64 (j : Int)), (6, .pointer (some ⟨q, 0, none⟩)), (5, .int .i64 ((k * 128 : Nat) : Int)), (3, .slice (some ⟨g, 0, none⟩) R.length c), (4, .slice a4 k c4)])
      (fun j => [bk q 59 (cb (padB 128 ((R.drop (k * 128)).take j))), own 59 128 a4 k c4 (flat (l.take k)), own 5 1 (some ⟨g, 0, none⟩) R.length c (cb R), exact x]) (fun j => j ≤ 128 ∧ k * 128 + j ≤ R.length) (fun j => 128 - j) 0 ⟨Nat.zero_le _, by omega⟩ ⟨rfl, rfl, rfl, rfl, rfl, trivial⟩ (by rw [List.take_zero, show padB 128 [] = zblk from rfl]; exact selA) ?_
    rintro j ⟨hj, hjR⟩
    by_cases h3 : j < 128 ∧ k * 128 + j < R.length
    · obtain ⟨h3, h4⟩ := h3
      have h3' : (j : Int) < 128 := by omega
      have h4' : ((k * 128 : Nat) : Int) + (j : Int) < (R.length : Int) := by omega
      have hpl : (padB 128 ((R.drop (k * 128)).take j)).length = 128 := padB_len (by simp; omega)
      refine wk ?_
      refine CX.ps (PS.indexAddr (j := k * 128 + j) rfl rfl rfl (by omega) h4) ?_
      (apply CX.ps; (· apply PS.load (v := .int .u8 ((R[k * 128 + j]).toNat : Int)); (· rfl); (· rfl); (· exact CellAt.own (by first | exact pickA | exact updA) (by rw [Nat.zero_add, Nat.mul_one]; exact cb_get R _ h4))))
      refine CX.ps (PS.indexArr (j := j) rfl rfl rfl rfl (by omega)) ?_
      (apply CX.storeC (v := .int .u8 ((R[k * 128 + j]).toNat : Int)); (· rfl); (· rfl); (· rfl); (· rfl); (· intro u hu; simp [Value.cells] at hu; rw [hu]; rfl))
      · first | exact pickA | exact updA
      · rw [length_cb, hpl]; omega
      have e1 : setL (cb (padB 128 ((R.drop (k * 128)).take j))) (0 + j * 1) (Value.int .u8 ((R[k * 128 + j]).toNat : Int)).cells.toList = cb (padB 128 ((R.drop (k * 128)).take (j + 1))) := part_next h3 h4
      rw [e1]
      refine wk ?_
      exact CQ.round (j + 1) ⟨by omega, by omega⟩ (by omega) ⟨eqI (by omega), rfl, rfl, rfl, rfl, trivial⟩ (by exact selA)
    · have hfull : padB 128 ((R.drop (k * 128)).take j) = l[k] := by
        rw [hXk]
        congr 1
        exact List.take_eq_take_iff.2 (by simp; omega)
      have htk : flat (l.take (k + 1)) = flat (l.take k) ++ cb l[k] := by
        rw [List.take_succ_eq_append_getElem h1]; unfold flat; rw [rows_append]; simp [rows]
      rw [hfull]
      by_cases h5 : j < 128
      · have h4 : ¬ ((k * 128 : Nat) : Int) + (j : Int) < (R.length : Int) := by omega
        refine wk ?_
        (apply CX.ps; (· apply PS.loadG (vs := cb l[k]); (· rfl); (· rfl); (· exact CellsAt.all (by first | exact pickA | exact updA)); (· exact hWk.len)))
        refine CX.buildSl (parts := [(0, _)]) (vs := [(0, .agg (cb l[k]).toArray)]) (out := cb l[k]) rfl rfl (by decide) (fill_one hWk.len (by simp)) fun bq => ?_
        refine CX.append (m := 1) (news := cb l[k]) rfl rfl rfl (by first | exact pickA | exact updA) (RdS.pick (b := bq) (o := 0) (by first | exact pickA | exact updA) hWk.len (one_cb _) (by rw [List.drop_zero, List.take_of_length_le (by rw [hWk.len]; omega)])) (by omega) (fun h => by cases h) ?_
        intro a3 c3
        rw [← htk]
        refine wk ?_
        exact CQ.round (x := (k, a4, c4)) (k + 1, a3, c3) h1 (by dsimp only; omega) ⟨eqI (by omega), rfl, rfl, trivial⟩ (by exact selA)
      · refine wk ?_
        (apply CX.ps; (· apply PS.loadG (vs := cb l[k]); (· rfl); (· rfl); (· exact CellsAt.all (by first | exact pickA | exact updA)); (· exact hWk.len)))
        refine CX.buildSl (parts := [(0, _)]) (vs := [(0, .agg (cb l[k]).toArray)]) (out := cb l[k]) rfl rfl (by decide) (fill_one hWk.len (by simp)) fun bq => ?_
        refine CX.append (m := 1) (news := cb l[k]) rfl rfl rfl (by first | exact pickA | exact updA) (RdS.pick (b := bq) (o := 0) (by first | exact pickA | exact updA) hWk.len (one_cb _) (by rw [List.drop_zero, List.take_of_length_le (by rw [hWk.len]; omega)])) (by omega) (fun h => by cases h) ?_
        intro a3 c3
        rw [← htk]
        refine wk ?_
        exact CQ.round (x := (k, a4, c4)) (k + 1, a3, c3) h1 (by dsimp only; omega) ⟨eqI (by omega), rfl, rfl, trivial⟩ (by exact selA)
  · obtain rfl : k = l.length := by omega
    rw [List.take_length]
    refine wk ?_
    (apply CQ.end1; (· rfl); (· exact .tmp rfl))
    · exact ⟨a4, c4, rfl, rfl⟩
    · exact selA
end Go.Proofs.YtlckhaodecdbbaaGreatDoor
/-! The document's journal (ref 07): laying, in the program. -/
namespace Go.Cx
def restS (J : JM) (at_ : Nat) (l : List Blk) (k : HdM) (i m : Nat) : List (DS → Int × DS) := ((List.range' i m).map fun (j : Nat) (D : DS) => D.write ((at_ : Int) + (j : Int)) (l.getD j [])) ++ [DS.flush, markM J k, DS.flush]
theorem restS_0 (J : JM) (at_ : Nat) (l : List Blk) (k : HdM) : layS J at_ l k = restS J at_ l k 0 l.length := by
  unfold layS writesM restS; rw [List.range_eq_range']
theorem wrote_step {S : List Blk} {at_ : Nat} {l : List Blk} (hi : at_ + l.length ≤ S.length) {D0 E : DS} {i : Nat} (h : i < l.length) (w : Wrote S at_ l i D0 E) (J : JM) (k : HdM) :
    (E.write ((at_ : Int) + (i : Int)) l[i] = (9, { E with dark := true }) ∧ runM (restS J at_ l k i (l.length - i)) E = (9, { E with dark := true })) ∨
    ∃ E', E.write ((at_ : Int) + (i : Int)) l[i] = (0, E') ∧ Wrote S at_ l (i + 1) D0 E' ∧ runM (restS J at_ l k i (l.length - i)) E = runM (restS J at_ l k (i + 1) (l.length - (i + 1))) E' := by
  have hlit : E.lit ((at_ : Int) + (i : Int)) = 0 := by
    unfold DS.lit DS.there errOf
    rw [w.lit, if_neg (by simp), if_pos (by rw [w.sure]; omega)]
  have eg : l.getD i [] = l[i] := by simp [List.getD, h]
  have hr : restS J at_ l k i (l.length - i) = (fun (D : DS) => D.write ((at_ : Int) + (i : Int)) (l.getD i [])) :: restS J at_ l k (i + 1) (l.length - (i + 1)) := by
    unfold restS
    rw [show l.length - i = (l.length - (i + 1)) + 1 by omega, List.range'_succ, List.map_cons, List.cons_append]
  rw [hr, runM, eg]
  rcases step_two E with ⟨h1, h2⟩ | h2
  · left
    have e : E.write ((at_ : Int) + (i : Int)) l[i] = (9, { E with dark := true }) := by
      unfold DS.write; rw [hlit, h2]; simp
    rw [e]; simp
  · right
    have e : E.write ((at_ : Int) + (i : Int)) l[i] = (0, { E with left := max (E.left - 1) 0, steps := E.steps + 1, loose := E.loose ++ [(at_ + i, l[i])] }) := by
      unfold DS.write; rw [hlit, h2]; simp
      omega
    refine ⟨_, e, ⟨w.lit, w.sure, by simp [w.loose, List.range_succ, h], fun h0 => by have := w.left h0; dsimp only; omega⟩, ?_⟩
    rw [e]; simp
theorem run_one (f : DS → Int × DS) (D : DS) : runM [f] D = f D := by
  rw [runM]
  by_cases h : (f D).1 = 0
  · rw [if_neg (by simp [h]), runM, ← h]
  · rw [if_pos h]
end Go.Cx
namespace Go.Proofs.YtlckhaodecdbbaaGreatDoor
open Go.Cx
attribute [local irreducible] Go.Cx.CX Go.Cx.CC Go.Cx.CQ Go.Cx.PS Go.Cx.Ctr Go.Cx.CH
set_option maxRecDepth 10000
theorem r7lay_c (q r : Nat) (J : JM) (at_ : Nat) (hat : at_ ≤ 1000000) (l : List Blk) (hW : ∀ b ∈ l, WB b) (hll : l.length ≤ 5000) (a : Option Addr) (c : Nat) (k : HdM) (hk : k.may) (D : DS) {N : Nat} (h : D.wf N) (hN : N + l.length + 3 < 999990) (cm : Cx.Calm D) (hi : at_ + l.length ≤ D.sure.length) (hJ : J.n < 4611686018427387904)
    (hnew : (newH ((settleL D.sure [] 128 0 ((List.range l.length).map fun i => (at_ + i, l.getD i []))).getD 0 []) ((settleL D.sure [] 128 0 ((List.range l.length).map fun i => (at_ + i, l.getD i []))).getD 1 [])).1 = J.n) :
    Ctr Tryz.prog 104 [.pointer (some ⟨q, 0, none⟩), .int .i64 (at_ : Int), .slice a l.length c, .agg (hc k).toArray] [rjA q r, rdisk r D] (fun x => rdx a (l.length * 128) (flat l) x)
    (fun v M => v = .int .i64 (runM (layS J at_ l k) D).1 ∧ M = [rjA q r, rdisk r (runM (layS J at_ l k) D).2]) := by
  unfold rjA
  refine Ctr.intro Tryz.func104 rfl Tryz.ntmps104 rfl fun x w hp => ?_
  refine wk ?_
  (refine CX.boxA (vs := hc k) ?_; intro q7)
  refine wk ?_
  refine CC.loop (X := Nat × DS) (fun s => [(9, .int .i64 (s.1 : Int)), (0, .pointer (some ⟨q, 0, none⟩)), (1, .int .i64 (at_ : Int)), (2, .slice a l.length c), (7, .pointer (some ⟨q7, 0, none⟩))])
    (fun s => [bk q 103 [.pointer (some ⟨r, 0, none⟩)], rdisk r s.2, bk q7 121 (hc k), exact x]) (fun s => s.1 ≤ l.length ∧ s.2.wf (N + s.1) ∧ Wrote D.sure at_ l s.1 D s.2 ∧ runM (layS J at_ l k) D = runM (restS J at_ l k s.1 (l.length - s.1)) s.2) (fun s => l.length - s.1) (0, D)
    ⟨Nat.zero_le _, h, ⟨cm.lit, rfl, by simp [cm.loose], fun h => h⟩, by rw [restS_0]; rfl⟩ ⟨rfl, rfl, rfl, rfl, rfl, trivial⟩ (by exact selA) ?_
  rintro ⟨i, E⟩ ⟨hil, hE, hw, hrun⟩
  dsimp only at hil hE hw hrun ⊢
  by_cases h1 : i < l.length
  · have hb := hW l[i] (List.getElem_mem h1)
    obtain ⟨g, off, rfl⟩ := rdx_some hp (by omega)
    have hcw := rwrite_c r E ((at_ : Int) + (i : Int)) l[i] hb hE (by omega)
    have hwf := write_wf hE ((at_ : Int) + (i : Int)) hb
    have hcell : ∀ {L L' : List Assn}, Pick (exact x) L L' → CellsAt L g (off + i * 128) (cb l[i]) := fun pk => CellsAt.row pk hp (by omega) (fun y hy => (hW y hy).len) h1
    rcases wrote_step hi h1 hw J k with ⟨e, er⟩ | ⟨E', e, w', er⟩
    · rw [hrun, er]
      rw [e] at hcw
      generalize l[i] = b at *
      refine wk ?_
      refine CC.draw [(0, 0), (1, 0), (2, 0), (3, 1), (4, 0), (5, 0), (6, 0), (7, 0), (8, 0), (9, 0), (10, 1), (11, 3), (12, 0)] mixed rfl (by kernel_rfl) (by kernel_rfl) [bk q 103 [.pointer (some ⟨r, 0, none⟩)], exact x] ?_
      refine hwk ?_
      refine CH.pure rfl (PS.indexAddr (j := i) rfl rfl rfl rfl h1) ?_
      (apply CH.read; (· rfl); (· apply PS.loadG (vs := cb b); (· rfl); (· rfl); (· exact hcell (by first | exact pickA | exact updA)); (· exact hb.len)); (· exact selA))
      refine CH.tail rfl rfl fun K hK => ?_
      refine CX.callA (hcw) ?_
      rintro _ _ ⟨rfl, rfl⟩
      (refine CX.nil ?_; refine CQ.thenK ?_; apply hK; clear hK K)
      refine hwk ?_
      refine wk ?_
      ((apply CQ.end1; (· rfl); (· exact .tmp rfl)); (· exact ⟨rfl, rfl⟩); (· exact selA))
    · rw [er] at hrun
      rw [e] at hcw hwf
      generalize l[i] = b at *
      refine wk ?_
      refine CC.draw [(0, 0), (1, 0), (2, 0), (3, 1), (4, 0), (5, 0), (6, 0), (7, 0), (8, 0), (9, 0), (10, 1), (11, 3), (12, 0)] mixed rfl (by kernel_rfl) (by kernel_rfl) [bk q 103 [.pointer (some ⟨r, 0, none⟩)], exact x] ?_
      refine hwk ?_
      refine CH.pure rfl (PS.indexAddr (j := i) rfl rfl rfl rfl h1) ?_
      (apply CH.read; (· rfl); (· apply PS.loadG (vs := cb b); (· rfl); (· rfl); (· exact hcell (by first | exact pickA | exact updA)); (· exact hb.len)); (· exact selA))
      refine CH.tail rfl rfl fun K hK => ?_
      refine CX.callA (hcw) ?_
      rintro _ _ ⟨rfl, rfl⟩
      (refine CX.nil ?_; refine CQ.thenK ?_; apply hK; clear hK K)
      refine hwk ?_
      refine wk ?_
      exact CQ.round (x := (i, E)) (i + 1, E') ⟨by dsimp only; omega, by dsimp only; rw [← Nat.add_assoc]; exact hwf, w', hrun⟩ (by dsimp only; omega) ⟨eqI (by simp), rfl, rfl, rfl, rfl, trivial⟩ (by exact selA)
  obtain rfl : i = l.length := by omega
  rw [Nat.sub_self] at hrun
  have hrest : restS J at_ l k l.length 0 = [DS.flush, markM J k, DS.flush] := rfl
  rw [hrest, runM] at hrun
  have hlo := h.lo
  have lit1 : E.lit 0 = 0 := by
    unfold DS.lit DS.there errOf
    rw [hw.lit, if_neg (by simp), hw.sure, if_pos (by omega)]
  have hcf := rflush_c r E hE (by omega)
  have hfw := flush_wf hE
  rcases step_two E with ⟨h2, h3⟩ | h3
  · have e : E.flush = (9, { E with dark := true }) := by unfold DS.flush; rw [lit1, h3]; simp
    rw [e] at hrun hcf
    simp only [ne_eq, show ¬ (9 : Int) = 0 by decide, not_false_eq_true, if_true] at hrun
    rw [hrun]
    refine wk ?_
    refine CX.callA (hcf) ?_
    rintro _ _ ⟨rfl, rfl⟩
    refine wk ?_
    ((apply CQ.end1; (· rfl); (· exact .tmp rfl)); (· exact ⟨rfl, rfl⟩); (· exact selA))
  have e : E.flush = (0, { E with sure := settleL D.sure [] 128 0 ((List.range l.length).map fun j => (at_ + j, l.getD j [])), loose := [], left := max (E.left - 1) 0, steps := E.steps + 1 }) := by
    unfold DS.flush; rw [lit1, h3]; simp [DS.settle, hw.sure, hw.loose]
  have len2 := length_settleL [] 128 ((List.range l.length).map fun j => (at_ + j, l.getD j [])) D.sure 0
  rw [e] at hrun hcf hfw
  generalize settleL D.sure [] 128 0 ((List.range l.length).map fun j => (at_ + j, l.getD j [])) = S2 at *
  obtain ⟨D2, hD2⟩ : ∃ D2 : DS, D2 = { E with sure := S2, loose := [], left := max (E.left - 1) 0, steps := E.steps + 1 } := ⟨_, rfl⟩
  rw [← hD2] at hrun hcf hfw
  simp only [ne_eq, not_true_eq_false, if_false] at hrun
  have c2 : Cx.Calm D2 := ⟨by rw [hD2]; exact hw.lit, by rw [hD2]⟩
  have s2 : D2.sure = S2 := by rw [hD2]
  have hb2 := c2.both (by rw [s2]; omega)
  have r0 := c2.read (k := 0) (by rw [s2]; omega)
  have r1 := c2.read (k := 1) (by rw [s2]; omega)
  rw [s2] at hb2 r0 r1
  replace r0 : D2.read 0 = (S2.getD 0 [], 0) := r0
  replace r1 : D2.read 1 = (S2.getD 1 [], 0) := r1
  have hnr : newR D2 = newH (S2.getD 0 []) (S2.getD 1 []) := by unfold newR; rw [r0, r1]
  have w0 : WB (S2.getD 0 []) := by have := read_WB hfw 0; rw [r0] at this; exact this
  have w1 : WB (S2.getD 1 []) := by have := read_WB hfw 1; rw [r1] at this; exact this
  have hcn := r7newest_c q r D2 hfw (by omega)
  have hc0 := r7read_c q r D2 0 hfw (by omega)
  have hc1 := r7read_c q r D2 1 hfw (by omega)
  unfold rjA at hcn hc0 hc1
  rw [hnr] at hcn
  rw [r0] at hc0
  rw [r1] at hc1
  have hput : (putH (J.n + 1) k).2 = 0 := (put_iff _ _).2 ⟨by omega, by unfold most; omega, hk⟩
  have hcp := r6put_c (J.n + 1) (by simp only [top]; omega) k (may_ok hk)
  have hpw := putH_WB (J.n + 1) k
  have em : markM J k D2 = D2.write (nextM (S2.getD 0 []) (S2.getD 1 [])) (putH (J.n + 1) k).1 := by
    unfold markM; rw [hb2]; simp only [ne_eq, not_true_eq_false, if_false]
    rw [if_neg (by simp [hput])]
  rw [runM, em, run_one] at hrun
  rw [hput] at hcp
  have hcw := rwrite_c r D2 (nextM (S2.getD 0 []) (S2.getD 1 [])) (putH (J.n + 1) k).1 hpw hfw (by omega)
  have hww := write_wf hfw (nextM (S2.getD 0 []) (S2.getD 1 [])) hpw
  have hcx := r5next_c (S2.getD 0 []) (S2.getD 1 []) w0 w1
  generalize (putH (J.n + 1) k).1 = X at *
  generalize D2.write (nextM (S2.getD 0 []) (S2.getD 1 [])) X = u at *
  generalize nextM (S2.getD 0 []) (S2.getD 1 []) = nx at *
  generalize newH (S2.getD 0 []) (S2.getD 1 []) = nw at *
  generalize S2.getD 0 [] = A at *
  generalize S2.getD 1 [] = B at *
  have hnw : (nw.1 : Int) + 1 = ((J.n + 1 : Nat) : Int) := by omega
  refine wk ?_
  refine CX.callA (hcf) ?_
  rintro _ _ ⟨rfl, rfl⟩
  refine wk ?_
  refine CX.callA (hcn) ?_
  rintro _ _ ⟨rfl, rfl⟩
  refine wk ?_
  refine CX.allocZ (hc HdM.z) ?_ (hv := rfl)
  intro q13
  refine wk ?_
  (refine CX.storeB (vs := hc nw.2.1) ?_ ?_ ?_ ?_; (· rfl); (· rfl); (· exact one_all rfl))
  refine wk ?_
  rw [hnw]
  (apply CX.ps; (· apply PS.loadG (vs := hc k); (· rfl); (· rfl); (· exact CellsAt.all (by first | exact pickA | exact updA)); (· rfl)))
  refine CX.callA (hcp) ?_
  rintro _ _ ⟨rfl, rfl⟩
  refine wk ?_
  refine CX.allocZ (cb zblk) ?_
  intro q15
  (apply CX.storeAll; (· rfl); (· rfl); (· rfl); (· first | exact pickA | exact updA); (· exact hpw.len); (· exact WB_z.len); (· exact one_cb _))
  refine wk ?_
  refine CC.draw [(0, 0), (1, 0), (2, 0), (3, 1), (4, 0), (6, 0), (9, 1), (5, 2), (7, 2), (8, 2), (10, 3), (11, 0)] mixed rfl (by kernel_rfl) (by kernel_rfl) [bk q 103 [.pointer (some ⟨r, 0, none⟩)], bk q15 59 (cb X)] ?_
  refine hwk ?_
  (apply CH.read; (· rfl); (· apply PS.loadG (vs := cb X); (· rfl); (· rfl); (· exact CellsAt.all (by first | exact pickA | exact updA)); (· exact hpw.len)); (· exact selA))
  refine CH.chain rfl fun K hK => ?_
  refine CX.callA (hc0) ?_
  rintro _ _ ⟨rfl, rfl⟩
  (refine CX.nil ?_; refine CQ.thenK ?_; apply hK; (· exact selA); clear hK K)
  refine CH.chain rfl fun K hK => ?_
  refine CX.callA (hc1) ?_
  rintro _ _ ⟨rfl, rfl⟩
  (refine CX.nil ?_; refine CQ.thenK ?_; apply hK; (· exact selA); clear hK K)
  refine CH.chain rfl fun K hK => ?_
  refine CX.callA (hcx) ?_
  rintro _ _ ⟨rfl, rfl⟩
  (refine CX.nil ?_; refine CQ.thenK ?_; apply hK; (· exact selA); clear hK K)
  refine CH.tail rfl rfl fun K hK => ?_
  refine CX.callA (hcw) ?_
  rintro _ _ ⟨rfl, rfl⟩
  (refine CX.nil ?_; refine CQ.thenK ?_; apply hK; clear hK K)
  refine hwk ?_
  by_cases hu : u.1 = 0
  rotate_left
  · rw [if_pos hu] at hrun
    rw [hrun]
    refine wk ?_
    ((apply CQ.end1; (· rfl); (· exact .tmp rfl)); (· exact ⟨rfl, rfl⟩); (· exact selA))
  rw [if_neg (by simp [hu])] at hrun
  rw [hrun, hu]
  refine wk ?_
  refine CX.callA (rflush_c r u.2 hww (by omega)) ?_
  rintro _ _ ⟨rfl, rfl⟩
  refine wk ?_
  ((apply CQ.end1; (· rfl); (· exact .tmp rfl)); (· exact ⟨rfl, rfl⟩); (· exact selA))
end Go.Proofs.YtlckhaodecdbbaaGreatDoor
