/- Part K2: Er, Ct, DkM, Cf, Cg, Ch, Se, St, Op, By, Ba. -/
import Derived.Test.YtlckhaodecdbbaaGreatDoorKT
import Derived.Test.YtlckhaodecdbbaaGreatDoorK1
import Derived.WalkKit
import Derived.LaidEql
import Derived.Stop.Asserts
import Derived.RowKitTokens
import Derived.Laws.BytesArg
import Derived.Laws.Strings
import Derived.OpenShut
import Derived.ShutString
import Derived.ChangeOld
import Derived.Below
import Derived.ProofKit
import Derived.Deep.Slices
import Derived.ChangeSame
set_option linter.unusedVariables false
set_option linter.unusedSimpArgs false
/-! errors.As and errors.Is, at the errors that store makes: closed facts on reflectlite's entries, and walks of Go's own text (after the worked examples' manner). -/
namespace Go.Proofs.YtlckhaodecdbbaaGreatDoor
open Go.RowKit Go.Extern.Stop Go.Stop Go.Extern

theorem er_types : Tryz.prog.types.size = 289 := by kernel_rfl

theorem er_eql_int {P : Program} {ti tp : TypeId} {ms : Array (String × TypeId)} {i : TypeInfo} (p q : Int) (w : World) (hi : P.underlying ti = some (.interface ms)) (hp : P.underlying tp = some (.int .i64)) (hinfo : P.info? tp = some i) (hcomp : i.comparable = true) :
    (binOp .eql ti (.iface tp (.int .i64 p)) (.iface tp (.int .i64 q))).run P w = .ok (.bool (decide (p = q))) w := by
  have h : ∀ d : Nat, (Op.equalIn (d + 2) ti (.iface tp (.int .i64 p)) (.iface tp (.int .i64 q))).run P w = .ok (decide (p = q)) w := fun d => by
    simp [Op.equalIn, run_underlying hi, run_underlying hp, typeInfo, hinfo, hcomp]; rfl
  simp only [binOp]
  simp [Op.equal, Op.maxDepth, h 9998]

/-! reflectlite's entries -/
theorem er_valueOfP (t : Addr) (w : World) : (ReflectliteValue.unpack (.iface 140 (.pointer (some t)))).run Tryz.prog w
    = .ok (.agg #[.pointer (some ⟨1, 140, none⟩), .pointer (some ⟨w.heap.size, 0, none⟩), .int .u64 150]) (w.alloc (.cells #[.pointer (some t)] 140)) := by kernel_rfl
theorem er_typeP (a : Addr) (w : World) : (ReflectliteValue.methodAny (ReflectliteValue.valueError "reflectlite.Value.Type" 0) (fun t _ _ _ => ReflectliteType.toType t) #[.agg #[.pointer (some ⟨1, 140, none⟩), .pointer (some a), .int .u64 150]]).run Tryz.prog w
    = .ok (.iface 210 (.agg #[.pointer (some ⟨1, 140, none⟩)])) w := by kernel_rfl
theorem er_methodKind (h : Value) (w : World) : (Go.method 389 210 (.agg #[h]) "Kind").run Tryz.prog w = .ok (217, h) w := by kernel_rfl
theorem er_kindP (w : World) : ((ReflectliteType.abiMethod fun t => (fun a : Nat => Value.int IntKind.u8 (a : Int)) <$> Rtype.kind t) #[.pointer (some ⟨1, 140, none⟩)]).run Tryz.prog w = .ok (.int .u8 22) w := by kernel_rfl
theorem er_kindE (w : World) : ((ReflectliteType.abiMethod fun t => (fun a : Nat => Value.int IntKind.u8 (a : Int)) <$> Rtype.kind t) #[.pointer (some ⟨1, 26, none⟩)]).run Tryz.prog w = .ok (.int .u8 2) w := by kernel_rfl
theorem er_rlm (z : Sem Value) (f : TypeId → Addr → Nat → Nat → Sem Value) (v : Value) :
    ReflectliteValue.method z f #[v] = (do match ← ReflectliteValue.parts v with | none => z | some (t, a, fl) => f t a fl (fl % 32)) := rfl
theorem er_partsP (a : Addr) (w : World) : (ReflectliteValue.parts (.agg #[.pointer (some ⟨1, 140, none⟩), .pointer (some a), .int .u64 150])).run Tryz.prog w = .ok (some (140, a, 150)) w := by kernel_rfl
theorem er_isNilP (a p : Addr) (W : World) (ha : W.cell? a = some (.pointer (some p))) :
    (ReflectliteValue.method (ReflectliteValue.valueError "reflectlite.Value.IsNil" 0) ReflectliteValue.isNil #[.agg #[.pointer (some ⟨1, 140, none⟩), .pointer (some a), .int .u64 150]]).run Tryz.prog W = .ok (.bool false) W := by
  rw [er_rlm]
  simp only [Sem.run_bind, er_partsP, Result.andThen]
  simp [ReflectliteValue.isNil, loadVar, isAgg, underlying, Tryz.underlying140, ha, Result.andThen]
theorem er_methodElem (h : Value) (w : World) : (Go.method 389 210 (.agg #[h]) "Elem").run Tryz.prog w = .ok (229, .agg #[h]) w := by kernel_rfl
theorem er_methodImpl (h : Value) (w : World) : (Go.method 389 210 (.agg #[h]) "Implements").run Tryz.prog w = .ok (230, .agg #[h]) w := by kernel_rfl
theorem er_methodAssign (h : Value) (w : World) : (Go.method 389 210 (.agg #[h]) "AssignableTo").run Tryz.prog w = .ok (227, .agg #[h]) w := by kernel_rfl
theorem er_methodComp (h : Value) (w : World) : (Go.method 389 210 (.agg #[h]) "Comparable").run Tryz.prog w = .ok (228, .agg #[h]) w := by kernel_rfl
theorem er_methodUnwrap (v : Value) (w : World) : (Go.method 389 176 v "Unwrap").run Tryz.prog w = .ok (222, v) w := by kernel_rfl
theorem er_elemP (w : World) : (ReflectliteType.method ReflectliteType.elem #[.agg #[.pointer (some ⟨1, 140, none⟩)]]).run Tryz.prog w = .ok (.iface 210 (.agg #[.pointer (some ⟨1, 26, none⟩)])) w := by kernel_rfl
theorem er_implE (w : World) : (ReflectliteType.relation "Implements" ReflectliteType.implements_ #[.agg #[.pointer (some ⟨1, 26, none⟩)], .iface 210 (.agg #[.pointer (some ⟨1, 87, none⟩)])]).run Tryz.prog w = .ok (.bool true) w := by kernel_rfl
theorem er_typeOfE (v : Value) (w : World) : (ReflectliteType.typeOf #[.iface 26 v]).run Tryz.prog w = .ok (.iface 210 (.agg #[.pointer (some ⟨1, 26, none⟩)])) w := by kernel_rfl
theorem er_typeOfF (v : Value) (w : World) : (ReflectliteType.typeOf #[.iface 176 v]).run Tryz.prog w = .ok (.iface 210 (.agg #[.pointer (some ⟨1, 176, none⟩)])) w := by kernel_rfl
theorem er_compE (w : World) : (callFunc 228 #[.agg #[.pointer (some ⟨1, 26, none⟩)]]).run Tryz.prog w = .ok (.value (.bool true)) w := by
  rw [@run_callFunc_extern Tryz.prog 228 _ (Extern.ReflectliteType.method fun t => do Go.Extern.Rtype.noPackHeld "Comparable" t; pure (.bool (← typeInfo t).comparable)) Tryz.func228 (by kernel_rfl) (by kernel_rfl) (by kernel_rfl) (by kernel_rfl)]
  rw [show ((Extern.ReflectliteType.method fun t => do Go.Extern.Rtype.noPackHeld "Comparable" t; pure (.bool (← typeInfo t).comparable)) #[.agg #[.pointer (some ⟨1, 26, none⟩)]]).run Tryz.prog w = .ok (.bool true) w by kernel_rfl]
  rfl
theorem er_assignE (w : World) : (ReflectliteType.relation "AssignableTo" ReflectliteType.assignableTo #[.agg #[.pointer (some ⟨1, 26, none⟩)], .iface 210 (.agg #[.pointer (some ⟨1, 26, none⟩)])]).run Tryz.prog w = .ok (.bool true) w := by kernel_rfl
theorem er_assignF (w : World) : (ReflectliteType.relation "AssignableTo" ReflectliteType.assignableTo #[.agg #[.pointer (some ⟨1, 176, none⟩)], .iface 210 (.agg #[.pointer (some ⟨1, 26, none⟩)])]).run Tryz.prog w = .ok (.bool false) w := by kernel_rfl
theorem er_valueOfE (e : Int) (w : World) : (ReflectliteValue.unpack (.iface 26 (.int .i64 e))).run Tryz.prog w
    = .ok (.agg #[.pointer (some ⟨1, 26, none⟩), .pointer (some ⟨w.heap.size, 0, none⟩), .int .u64 130]) (w.alloc (.cells #[.int .i64 e] 26)) := by kernel_rfl
theorem er_elemOfP (w : World) : (Rtype.elem? 140).run Tryz.prog w = .ok (some 26) w := by kernel_rfl
theorem er_mkE (p : Addr) (w : World) : (ReflectliteValue.mk 26 p ReflectliteValue.flagAddr).run Tryz.prog w = .ok (.agg #[.pointer (some ⟨1, 26, none⟩), .pointer (some p), .int .u64 386]) w := by kernel_rfl
theorem er_elemVP (a p : Addr) (W : World) (ha : W.cell? a = some (.pointer (some p))) :
    (ReflectliteValue.method (ReflectliteValue.valueError "reflectlite.Value.Elem" 0) ReflectliteValue.elem #[.agg #[.pointer (some ⟨1, 140, none⟩), .pointer (some a), .int .u64 150]]).run Tryz.prog W
      = .ok (.agg #[.pointer (some ⟨1, 26, none⟩), .pointer (some p), .int .u64 386]) W := by
  rw [er_rlm]
  simp only [Sem.run_bind, er_partsP, Result.andThen]
  simp [ReflectliteValue.elem, loadVar, isAgg, underlying, Tryz.underlying140, ha, Result.andThen, er_elemOfP, er_mkE]
theorem er_rls (v x : Value) : ReflectliteValue.set #[v, x] = (do
    let (some (dst, a, fl), some (src, b, _)) := (← ReflectliteValue.parts v, ← ReflectliteValue.parts x)
      | unsupported (.noEntry "extern/(internal/reflectlite.Value).Set.zeroValue")
    if fl / ReflectliteValue.flagAddr % 2 == 0 then unsupported (.noEntry "extern/(internal/reflectlite.Value).Set.unaddressable")
    let val ← loadVar src b
    if ← Rtype.directlyAssignable dst src then storeVar dst a val
    else if ← Rtype.implements dst src then
      if (← Rtype.kind src) == 20 then
        match val with
        | .nilIface => unsupported (.noEntry "extern/reflectlite: a nil value of one interface type handed on as a value of another")
        | _ => storeVar dst a val
      else storeVar dst a (.iface src val)
    else panicString ("reflectlite.Set: value of type " ++ (← Rtype.spelt src) ++ " is not assignable to type " ++ (← Rtype.spelt dst))
    pure (.tuple #[])) := rfl
theorem er_partsEa (a : Addr) (w : World) : (ReflectliteValue.parts (.agg #[.pointer (some ⟨1, 26, none⟩), .pointer (some a), .int .u64 386])).run Tryz.prog w = .ok (some (26, a, 386)) w := by kernel_rfl
theorem er_partsE (a : Addr) (w : World) : (ReflectliteValue.parts (.agg #[.pointer (some ⟨1, 26, none⟩), .pointer (some a), .int .u64 130])).run Tryz.prog w = .ok (some (26, a, 130)) w := by kernel_rfl
theorem er_directE (w : World) : (Rtype.directlyAssignable 26 26).run Tryz.prog w = .ok true w := by kernel_rfl
theorem er_setE (ta b : Addr) (e : Int) (old : Value) (W : World) (hb : W.cell? b = some (.int .i64 e)) (ht : W.cell? ta = some old) (hf : W.frozen? ta = false) :
    (ReflectliteValue.set #[.agg #[.pointer (some ⟨1, 26, none⟩), .pointer (some ta), .int .u64 386], .agg #[.pointer (some ⟨1, 26, none⟩), .pointer (some b), .int .u64 130]]).run Tryz.prog W
      = .ok (.tuple #[]) (W.setCell ta (.int .i64 e)) := by
  rw [er_rls]
  simp only [Sem.run_bind, er_partsEa, er_partsE, Result.andThen]
  simp [ReflectliteValue.flagAddr, loadVar, isAgg, underlying, Tryz.underlying26, hb, Result.andThen, er_directE, storeVar, Value.cells, storeCells, Addr.add]
  rw [run_store Tryz.prog W ta _ _ (by rfl)]
  simp [ht, hf]

/-! what the assertions find -/
theorem er_noAsF (v : Value) (xT : TypeId) (w : World) : (Instr.typeAssert (.iface 176 v) xT 214 true).run Tryz.prog w = .ok (.tuple #[.nilIface, .bool false]) w := run_typeAssert_lacksB Tryz.underlying214 (by kernel_rfl) (by kernel_rfl) v xT w
theorem er_noIsF (v : Value) (xT : TypeId) (w : World) : (Instr.typeAssert (.iface 176 v) xT 238 true).run Tryz.prog w = .ok (.tuple #[.nilIface, .bool false]) w := run_typeAssert_lacksB Tryz.underlying238 (by kernel_rfl) (by kernel_rfl) v xT w
theorem er_unF (v : Value) (xT : TypeId) (w : World) : (Instr.typeAssert (.iface 176 v) xT 217 true).run Tryz.prog w = .ok (.tuple #[.iface 176 v, .bool true]) w := run_typeAssert_hasB Tryz.underlying217 (by kernel_rfl) v xT w
theorem er_noIsE (v : Value) (xT : TypeId) (w : World) : (Instr.typeAssert (.iface 26 v) xT 238 true).run Tryz.prog w = .ok (.tuple #[.nilIface, .bool false]) w := run_typeAssert_lacksB Tryz.underlying238 (by kernel_rfl) (by kernel_rfl) v xT w
theorem er_noUnE (v : Value) (xT : TypeId) (w : World) : (Instr.typeAssert (.iface 26 v) xT 217 true).run Tryz.prog w = .ok (.tuple #[.nilIface, .bool false]) w := run_typeAssert_lacksB Tryz.underlying217 (by kernel_rfl) (by kernel_rfl) v xT w
theorem er_noUnsE (v : Value) (xT : TypeId) (w : World) : (Instr.typeAssert (.iface 26 v) xT 219 true).run Tryz.prog w = .ok (.tuple #[.nilIface, .bool false]) w := run_typeAssert_lacksB Tryz.underlying219 (by kernel_rfl) (by kernel_rfl) v xT w
theorem er_compInfo : (Tryz.prog.info? 26).map (·.comparable) = some true := by kernel_rfl

/-- errors.Is(nil, an Errno). -/
theorem is_nil9 (k : Int) (w : World) :
    Calls Tryz.prog 130 #[.nilIface, .iface 26 (.int .i64 k)] w fun e w' => e = .returned (.bool false) ∧ w' = w := by
  have hn := run_eql_iface_nil_left (P := Tryz.prog) w 26 (.int .i64 k) Tryz.underlying87
  go_enter Tryz.func130, Tryz.ntmps130
  go_wp2
  go_ret
  exact ⟨rfl, rfl⟩

set_option maxHeartbeats 4000000 in
/-- errors.Is(a failed that wraps e, k): e = k. -/
theorem is_failed9 (pb po : Nat) (e k : Int) (w : World) (h1 : w.cell? ⟨pb, po + 1, none⟩ = some (.iface 26 (.int .i64 e))) :
    Calls Tryz.prog 130 #[.iface 176 (.pointer (some ⟨pb, po, none⟩)), .iface 26 (.int .i64 k)] w fun ev w' => ev = .returned (.bool (decide (e = k))) ∧ w' = w := by
  obtain ⟨i, hi, hcmp⟩ := Option.map_eq_some_iff.1 er_compInfo
  have h8 := @run_callFunc_extern Tryz.prog 158 _ Extern.ReflectliteType.typeOf Tryz.func158 (by kernel_rfl) (by kernel_rfl) (by kernel_rfl) (by kernel_rfl)
  have tT := er_typeOfE
  have cT := er_compE
  have mR := er_methodComp
  have nF := er_noIsF
  have uF := er_unF
  have mU := er_methodUnwrap
  have nE := er_noIsE
  have nU := er_noUnE
  have nV := er_noUnsE
  have heq := er_eql_int (P := Tryz.prog) e k w Tryz.underlying87 Tryz.underlying26 hi hcmp
  have hty := run_eql_iface_types (P := Tryz.prog) 176 26 (.pointer (some ⟨pb, po, none⟩)) (.int .i64 k) Tryz.underlying87 (by decide) w
  by_cases hek : e = k
  · simp only [hek, decide_true] at heq ⊢
    rw [hek] at h1
    go_enter Tryz.func130, Tryz.ntmps130
    go_wp2
    refine wp_loop_rounds 2 ?_
    rw [rounds_succ]
    go_wp2
    rw [rounds_succ]
    go_wp2
    go_ret
    exact ⟨rfl, rfl⟩
  · simp only [hek, decide_false] at heq ⊢
    go_enter Tryz.func130, Tryz.ntmps130
    go_wp2
    refine wp_loop_rounds 2 ?_
    rw [rounds_succ]
    go_wp2
    rw [rounds_succ]
    go_wp2
    go_ret
    exact ⟨rfl, rfl⟩

set_option maxHeartbeats 4000000 in
/-- errors.As(a failed that wraps e, &v): v = e. -/
theorem as_failed9 (pb po : Nat) (e : Int) (t : Addr) (old : Value) (w : World) (hg : w.cell? ⟨0, 0, none⟩ = some (.iface 210 (.agg #[.pointer (some ⟨1, 87, none⟩)])))
    (h1 : w.cell? ⟨pb, po + 1, none⟩ = some (.iface 26 (.int .i64 e))) (ht0 : w.cell? t = some old) (hf0 : w.frozen? t = false) :
    Calls Tryz.prog 91 #[.iface 176 (.pointer (some ⟨pb, po, none⟩)), .iface 140 (.pointer (some t))] w fun ev w' => ev = .returned (.bool true) ∧ w' = ((((w.alloc (.cells #[.pointer (some t)] 140)).alloc (.cells #[.pointer (some ⟨1, 140, none⟩), .pointer (some ⟨w.heap.size, 0, none⟩), .int .u64 150] 185)).alloc (.cells #[.pointer (some ⟨1, 140, none⟩), .pointer (some ⟨w.heap.size, 0, none⟩), .int .u64 150] 185)).alloc (.cells #[.int .i64 e] 26)).setCell t (.int .i64 e) := by
  have h6 := @run_callFunc_extern Tryz.prog 132 _ (fun args => ReflectliteValue.unpack (args.getD 0 (.tuple #[]))) Tryz.func132 (by kernel_rfl) (by kernel_rfl) (by kernel_rfl) (by kernel_rfl)
  have h7 := @run_callFunc_extern Tryz.prog 133 _ (ReflectliteValue.methodAny (ReflectliteValue.valueError "reflectlite.Value.Type" 0) (fun t _ _ _ => ReflectliteType.toType t)) Tryz.func133 (by kernel_rfl) (by kernel_rfl) (by kernel_rfl) (by kernel_rfl)
  have h8 := @run_callFunc_extern Tryz.prog 134 _ (ReflectliteValue.method (ReflectliteValue.valueError "reflectlite.Value.IsNil" 0) ReflectliteValue.isNil) Tryz.func134 (by kernel_rfl) (by kernel_rfl) (by kernel_rfl) (by kernel_rfl)
  have h27 := @run_callFunc_extern Tryz.prog 217 _ (ReflectliteType.abiMethod fun t => do pure (.int .u8 (← Rtype.kind t))) Tryz.func217 (by kernel_rfl) (by kernel_rfl) (by kernel_rfl) (by kernel_rfl)
  have h37 := @run_callFunc_extern Tryz.prog 229 _ (ReflectliteType.method ReflectliteType.elem) Tryz.func229 (by kernel_rfl) (by kernel_rfl) (by kernel_rfl) (by kernel_rfl)
  have h38 := @run_callFunc_extern Tryz.prog 230 _ (ReflectliteType.relation "Implements" ReflectliteType.implements_) Tryz.func230 (by kernel_rfl) (by kernel_rfl) (by kernel_rfl) (by kernel_rfl)
  have h10 := @run_callFunc_extern Tryz.prog 158 _ ReflectliteType.typeOf Tryz.func158 (by kernel_rfl) (by kernel_rfl) (by kernel_rfl) (by kernel_rfl)
  have h35 := @run_callFunc_extern Tryz.prog 227 _ (ReflectliteType.relation "AssignableTo" ReflectliteType.assignableTo) Tryz.func227 (by kernel_rfl) (by kernel_rfl) (by kernel_rfl) (by kernel_rfl)
  have h11 := @run_callFunc_extern Tryz.prog 162 _ (ReflectliteValue.method (ReflectliteValue.valueError "reflectlite.Value.Elem" 0) ReflectliteValue.elem) Tryz.func162 (by kernel_rfl) (by kernel_rfl) (by kernel_rfl) (by kernel_rfl)
  have h12 := @run_callFunc_extern Tryz.prog 163 _ ReflectliteValue.set Tryz.func163 (by kernel_rfl) (by kernel_rfl) (by kernel_rfl) (by kernel_rfl)
  have tE := er_typeOfE
  have tF := er_typeOfF
  have mA := er_methodAssign
  have aE := er_assignE
  have aF := er_assignF
  have vE := er_valueOfE
  have f6 := er_valueOfP
  have f7 := er_typeP
  have mK := er_methodKind
  have mE := er_methodElem
  have mI := er_methodImpl
  have mU := er_methodUnwrap
  have kP := er_kindP
  have kE := er_kindE
  have eP := er_elemP
  have iE := er_implE
  have nA := er_noAsF
  have uF := er_unF
  have n8 := er_isNilP ⟨w.heap.size, 0, none⟩ t ((w.alloc (.cells #[.pointer (some t)] 140)).alloc (.cells #[.pointer (some ⟨1, 140, none⟩), .pointer (some ⟨w.heap.size, 0, none⟩), .int .u64 150] 185)) (by simp)
  have hlt : 0 < w.heap.size := by
    rcases Nat.eq_zero_or_pos w.heap.size with h0 | h
    · simp [World.cell?, h0] at hg
    · exact h
  have hg2 : ((w.alloc (.cells #[.pointer (some t)] 140)).alloc (.cells #[.pointer (some ⟨1, 140, none⟩), .pointer (some ⟨w.heap.size, 0, none⟩), .int .u64 150] 185)).cell? ⟨0, 0, none⟩ = some (.iface 210 (.agg #[.pointer (some ⟨1, 87, none⟩)])) := by
    rw [World.cell?_alloc_lt _ _ ⟨0, 0, none⟩ (by simp), World.cell?_alloc_lt _ _ ⟨0, 0, none⟩ hlt]; exact hg
  have htl : t.block < w.heap.size := by
    rcases Nat.lt_or_ge t.block w.heap.size with h | h
    · exact h
    · simp [World.cell?, Array.getElem?_eq_none h] at ht0
  have hpl : pb < w.heap.size := by
    rcases Nat.lt_or_ge pb w.heap.size with h | h
    · exact h
    · simp [World.cell?, Array.getElem?_eq_none h] at h1
  have h13 : (((w.alloc (.cells #[.pointer (some t)] 140)).alloc (.cells #[.pointer (some ⟨1, 140, none⟩), .pointer (some ⟨w.heap.size, 0, none⟩), .int .u64 150] 185)).alloc (.cells #[.pointer (some ⟨1, 140, none⟩), .pointer (some ⟨w.heap.size, 0, none⟩), .int .u64 150] 185)).cell? ⟨pb, po + 1, none⟩ = some (.iface 26 (.int .i64 e)) := by
    rw [World.cell?_alloc_lt _ _ _ (by simp; omega), World.cell?_alloc_lt _ _ _ (by simp; omega), World.cell?_alloc_lt _ _ _ hpl]; exact h1
  have el := er_elemVP ⟨w.heap.size, 0, none⟩ t (((w.alloc (.cells #[.pointer (some t)] 140)).alloc (.cells #[.pointer (some ⟨1, 140, none⟩), .pointer (some ⟨w.heap.size, 0, none⟩), .int .u64 150] 185)).alloc (.cells #[.pointer (some ⟨1, 140, none⟩), .pointer (some ⟨w.heap.size, 0, none⟩), .int .u64 150] 185)) (by rw [World.cell?_alloc_lt _ _ ⟨w.heap.size, 0, none⟩ (by simp; omega)]; simp)
  have st := er_setE t ⟨w.heap.size + 1 + 1 + 1, 0, none⟩ e old ((((w.alloc (.cells #[.pointer (some t)] 140)).alloc (.cells #[.pointer (some ⟨1, 140, none⟩), .pointer (some ⟨w.heap.size, 0, none⟩), .int .u64 150] 185)).alloc (.cells #[.pointer (some ⟨1, 140, none⟩), .pointer (some ⟨w.heap.size, 0, none⟩), .int .u64 150] 185)).alloc (.cells #[.int .i64 e] 26))
    (by rw [World.cell?_alloc_at _ _ _ _ (by simp)]; rfl)
    (by rw [World.cell?_alloc_lt _ _ t (by simp; omega), World.cell?_alloc_lt _ _ t (by simp; omega), World.cell?_alloc_lt _ _ t (by simp; omega), World.cell?_alloc_lt _ _ t htl]; exact ht0)
    (by rw [World.frozen?_alloc_old _ _ t (by simp; omega), World.frozen?_alloc_old _ _ t (by simp; omega), World.frozen?_alloc_old _ _ t (by simp; omega), World.frozen?_alloc_old _ _ t (Nat.ne_of_lt htl)]; exact hf0)
  go_enter Tryz.func91, Tryz.ntmps91
  go_wp2
  refine wp_loop_rounds 2 ?_
  rw [rounds_succ]
  go_wp2
  rw [rounds_succ]
  go_wp2
  go_ret
  exact ⟨rfl, rfl⟩
end Go.Proofs.YtlckhaodecdbbaaGreatDoor
/-! A contract, made from and turned into what it says. -/
namespace Go.Cx
theorem Ctr.ofC {P : Program} {f : FuncId} {args : List Value} {H : List Assn} {pre : PH → Prop} {post : Value → List Assn → Prop}
    (h : ∀ x w, Sep (H ++ [exact x]) w.ph → pre x → Calls P f args.toArray w fun e w' => ∃ v M, post v M ∧ e = .returned v ∧ Sep (M ++ [exact x]) w'.ph ∧ Env0 w w') : Ctr P f args H pre post := h
theorem Ctr.toC {P : Program} {f : FuncId} {args : List Value} {H : List Assn} {pre : PH → Prop} {post : Value → List Assn → Prop} (S : Ctr P f args H pre post) (x : PH) (w : World) (hs : Sep (H ++ [exact x]) w.ph) (hp : pre x) :
    Calls P f args.toArray w fun e w' => ∃ v M, post v M ∧ e = .returned v ∧ Sep (M ++ [exact x]) w'.ph ∧ Env0 w w' := S x w hs hp
end Go.Cx
/-! A disk, in plain words: what is sure, what is not, and the steps to come. No program in sight. -/
namespace Go.Cx
abbrev Blk := List UInt8
def ib (b : Blk) : List Int := b.map fun x => ((x.toNat : Nat) : Int)
/-- A block's cells. -/
def cb (b : Blk) : List Value := (ib b).map (Value.int .u8)
def zblk : Blk := List.replicate 128 0

theorem ib_inj {a b : Blk} : ib a = ib b ↔ a = b := by
  unfold ib
  constructor
  · intro h
    have : ∀ (a b : List UInt8), a.map (fun x => ((x.toNat : Nat) : Int)) = b.map (fun x => ((x.toNat : Nat) : Int)) → a = b := by
      intro a
      induction a with
      | nil => intro b h; cases b <;> simp_all
      | cons x a ih =>
        intro b h
        cases b with
        | nil => simp at h
        | cons y b =>
          simp only [List.map_cons, List.cons.injEq] at h
          have h1 : x.toNat = y.toNat := by omega
          rw [UInt8.toNat_inj.1 h1, ih b h.2]
    exact this a b h
  · rintro rfl; rfl
@[simp] theorem length_ib (b : Blk) : (ib b).length = b.length := by simp [ib]
@[simp] theorem length_cb (b : Blk) : (cb b).length = b.length := by simp [cb]
theorem one_cb (b : Blk) : ∀ u ∈ cb b, u.oneCell' = true := by
  intro u hu; simp only [cb, List.mem_map] at hu; obtain ⟨z, _, rfl⟩ := hu; rfl
theorem cb_z : cb zblk = List.replicate 128 (.int .u8 0) := by simp [cb, ib, zblk]
theorem cb_append (a b : Blk) : cb (a ++ b) = cb a ++ cb b := by simp [cb, ib]
theorem cb_take (a : Blk) (n : Nat) : (cb a).take n = cb (a.take n) := by simp [cb, ib, List.map_take]
theorem cb_drop (a : Blk) (n : Nat) : (cb a).drop n = cb (a.drop n) := by simp [cb, ib, List.map_drop]
theorem cb_get (a : Blk) (n : Nat) (h : n < a.length) : (cb a)[n]? = some (.int .u8 (a[n].toNat : Int)) := by simp [cb, ib, h]
theorem cb_setL (a v : Blk) (o : Nat) : setL (cb a) o (cb v) = cb (a.take o ++ (v ++ a.drop (o + v.length))) := by
  simp [setL, cb, ib, List.map_take, List.map_drop]

def WB (b : Blk) : Prop := b.length = 128
theorem WB_z : WB zblk := by simp [WB, zblk]

/-! ### Rows of equal parts -/
def rows {α : Type} (f : α → List Value) (l : List α) : List Value := (l.map f).flatten
theorem length_rows {α : Type} (f : α → List Value) (k : Nat) (l : List α) (h : ∀ x ∈ l, (f x).length = k) : (rows f l).length = l.length * k := by
  induction l with
  | nil => simp [rows]
  | cons x l ih =>
    have := ih fun y hy => h y (by simp [hy])
    simp only [rows, List.map_cons, List.flatten_cons, List.length_append] at this ⊢
    rw [h x (by simp), List.length_cons, Nat.add_mul, this]; omega
theorem rows_append {α : Type} (f : α → List Value) (a b : List α) : rows f (a ++ b) = rows f a ++ rows f b := by simp [rows]
theorem rows_drop {α : Type} (f : α → List Value) (k : Nat) (l : List α) (h : ∀ x ∈ l, (f x).length = k) (i : Nat) : (rows f l).drop (i * k) = rows f (l.drop i) := by
  induction l generalizing i with
  | nil => simp [rows]
  | cons x l ih =>
    cases i with
    | zero => simp
    | succ i =>
      have := ih (fun y hy => h y (by simp [hy])) i
      simp only [rows, List.map_cons, List.flatten_cons, List.drop_succ_cons] at this ⊢
      rw [← this, Nat.add_mul, Nat.one_mul, Nat.add_comm, ← List.drop_drop, ← h x (by simp)]
      simp
theorem rows_take {α : Type} (f : α → List Value) (k : Nat) (l : List α) (h : ∀ x ∈ l, (f x).length = k) (i : Nat) : (rows f l).take (i * k) = rows f (l.take i) := by
  induction l generalizing i with
  | nil => simp [rows]
  | cons x l ih =>
    cases i with
    | zero => simp [rows]
    | succ i =>
      have := ih (fun y hy => h y (by simp [hy])) i
      simp only [rows, List.map_cons, List.flatten_cons, List.take_succ_cons] at this ⊢
      rw [← this, Nat.add_mul, Nat.one_mul, Nat.add_comm, ← h x (by simp), List.take_append]
      rw [List.take_of_length_le (by omega)]
      simp
theorem rows_get {α : Type} (f : α → List Value) (k : Nat) (l : List α) (h : ∀ x ∈ l, (f x).length = k) (i : Nat) (hi : i < l.length) (j m : Nat) (hj : j + m ≤ k) :
    ((rows f l).drop (i * k + j)).take m = ((f l[i]).drop j).take m := by
  rw [← List.drop_drop, rows_drop f k l h, List.drop_eq_getElem_cons hi]
  simp only [rows, List.map_cons, List.flatten_cons]
  have := h l[i] (by simp)
  rw [List.drop_append_of_le_length (by omega), List.take_append_of_le_length (by simp; omega)]
theorem rows_set {α : Type} (f : α → List Value) (k : Nat) (l : List α) (h : ∀ x ∈ l, (f x).length = k) (i : Nat) (hi : i < l.length) (j : Nat) (vs : List Value) (y : α) (hj : j + vs.length ≤ k)
    (hy : f y = setL (f l[i]) j vs) : setL (rows f l) (i * k + j) vs = rows f (l.set i y) := by
  have hlen := length_rows f k l h
  have e : l = l.take i ++ (l[i] :: l.drop (i + 1)) := by simp
  have hk : (f l[i]).length = k := h _ (by simp)
  have e2 : l.set i y = l.take i ++ (y :: l.drop (i + 1)) := by rw [List.set_eq_take_append_cons_drop]; simp [hi]
  have hpre : (rows f (l.take i)).length = i * k := by
    rw [length_rows f k _ fun x hx => h x (List.mem_of_mem_take hx)]; simp [Nat.min_eq_left (Nat.le_of_lt hi)]
  rw [e2, rows_append]
  have e3 : rows f l = rows f (l.take i) ++ (f l[i] ++ rows f (l.drop (i + 1))) := by
    conv => lhs; rw [e, rows_append]
    rfl
  rw [e3]
  have e4 : rows f (y :: l.drop (i + 1)) = setL (f l[i]) j vs ++ rows f (l.drop (i + 1)) := by simp [rows, ← hy]
  rw [e4]
  simp only [setL]
  rw [List.take_append, List.take_of_length_le (by omega), hpre, Nat.add_sub_cancel_left]
  rw [List.take_append_of_le_length (by omega)]
  rw [List.drop_append, List.drop_of_length_le (show (rows f (l.take i)).length ≤ i * k + j + vs.length by omega), hpre]
  have e5 : i * k + j + vs.length - i * k = j + vs.length := by omega
  rw [e5, List.drop_append_of_le_length (by omega)]
  simp

theorem rows_at {α : Type} (f : α → List Value) (k : Nat) (l : List α) (h : ∀ x ∈ l, (f x).length = k) (i : Nat) (hi : i < l.length) (j : Nat) (hj : j < k) : (rows f l)[i * k + j]? = (f l[i])[j]? := by
  have := rows_get f k l h i hi j 1 (by omega)
  have e : ∀ (a : List Value) (n : Nat), a[n]? = ((a.drop n).take 1)[0]? := fun a n => by simp [List.getElem?_take]
  rw [e, this, ← e]

def flat (S : List Blk) : List Value := rows cb S
def pc (p : Nat × Blk) : List Value := .int .i64 (p.1 : Int) :: cb p.2
def flatL (l : List (Nat × Blk)) : List Value := rows pc l
theorem one_flat (S : List Blk) : ∀ u ∈ flat S, u.oneCell' = true := by
  intro u hu; simp only [flat, rows, List.mem_flatten, List.mem_map] at hu; obtain ⟨l, ⟨b, _, rfl⟩, h⟩ := hu; exact one_cb b u h
theorem one_flatL (l : List (Nat × Blk)) : ∀ u ∈ flatL l, u.oneCell' = true := by
  intro u hu; simp only [flatL, rows, List.mem_flatten, List.mem_map] at hu; obtain ⟨_, ⟨b, _, rfl⟩, h⟩ := hu
  simp only [pc, List.mem_cons] at h
  rcases h with rfl | h
  · rfl
  · exact one_cb _ u h

structure DS where
  sure : List Blk
  loose : List (Nat × Blk)
  left : Int
  steps : Nat
  dark : Bool

/-- Well made, N steps or fewer behind it. -/
structure DS.wf (D : DS) (N : Nat) : Prop where
  lo : 64 ≤ D.sure.length
  hi : D.sure.length ≤ 4096
  wb : ∀ b ∈ D.sure, WB b
  lb : ∀ p ∈ D.loose, p.1 < D.sure.length ∧ WB p.2
  left0 : 0 ≤ D.left
  left1 : D.left ≤ 9223372036854775807
  steps : D.steps ≤ N
  loose : D.loose.length ≤ N

def errOf (n : Int) (len : Nat) : Int := if 0 ≤ n ∧ n < len then 0 else 2
def DS.there (D : DS) (n : Int) : Int := errOf n D.sure.length
def DS.lit (D : DS) (n : Int) : Int := if D.dark then 9 else D.there n
def DS.step (D : DS) : Int × DS := if D.left = 1 then (9, { D with dark := true }) else (0, { D with left := max (D.left - 1) 0, steps := D.steps + 1 })
def DS.write (D : DS) (n : Int) (b : Blk) : Int × DS :=
  if D.lit n ≠ 0 then (D.lit n, D) else if D.step.1 = 0 then (0, { D.step.2 with loose := D.step.2.loose ++ [(n.toNat, b)] }) else D.step
/-- Of a write so many bytes. -/
def torn (old now : Blk) (n : Nat) : Blk := now.take n ++ old.drop n
def pickAt (picks : List Int) (others : Nat) (i : Nat) : Nat := match picks[i]? with | some z => (min (max z 0) 128).toNat | none => others
def settleL (S : List Blk) (picks : List Int) (others : Nat) : Nat → List (Nat × Blk) → List Blk
  | _, [] => S
  | i, p :: l => settleL (S.set p.1 (torn (S.getD p.1 []) p.2 (pickAt picks others i))) picks others (i + 1) l
def DS.settle (D : DS) (picks : List Int) (others : Nat) : DS := { D with sure := settleL D.sure picks others 0 D.loose, loose := [] }
def DS.flush (D : DS) : Int × DS := if D.lit 0 ≠ 0 then (D.lit 0, D) else if D.step.1 = 0 then (0, D.step.2.settle [] 128) else D.step
def DS.arm (D : DS) (n : Int) : Int × DS := if D.lit 0 ≠ 0 then (D.lit 0, D) else if n < 0 then (2, D) else (0, { D with left := n })
def DS.crash (D : DS) (picks : List Int) : DS := { D.settle picks 0 with dark := false, left := 0 }
/-- What was written last. -/
def DS.get (D : DS) (n : Nat) : Blk := match D.loose.reverse.find? (·.1 == n) with | some p => p.2 | none => D.sure.getD n []
def DS.read (D : DS) (n : Int) : Blk × Int := if D.lit n ≠ 0 then (zblk, D.lit n) else (D.get n.toNat, 0)
def DS.sureAt (D : DS) (n : Int) : Blk × Int := if D.there n ≠ 0 then (zblk, D.there n) else (D.sure.getD n.toNat [], 0)
def DS.rot (D : DS) (n at_ : Int) (by_ : UInt8) : Int × DS :=
  if D.there n ≠ 0 then (D.there n, D) else if at_ < 0 ∨ 128 ≤ at_ then (2, D) else
    (0, { D with sure := D.sure.set n.toNat ((D.sure.getD n.toNat []).set at_.toNat ((D.sure.getD n.toNat []).getD at_.toNat 0 ^^^ by_)) })
def DS.new (n : Nat) : DS := { sure := List.replicate n zblk, loose := [], left := 0, steps := 0, dark := false }

theorem settleL_snoc (picks : List Int) (o : Nat) (l : List (Nat × Blk)) (p : Nat × Blk) : ∀ (S : List Blk) (i : Nat), settleL S picks o i (l ++ [p]) = (settleL S picks o i l).set p.1 (torn ((settleL S picks o i l).getD p.1 []) p.2 (pickAt picks o (i + l.length))) := by
  induction l with
  | nil => intro S i; simp [settleL]
  | cons q l ih =>
    intro S i
    simp only [List.cons_append, settleL]
    rw [ih]
    simp only [List.length_cons]
    rw [show i + 1 + l.length = i + (l.length + 1) by omega]
theorem length_settleL (picks : List Int) (o : Nat) (l : List (Nat × Blk)) : ∀ (S : List Blk) (i : Nat), (settleL S picks o i l).length = S.length := by
  induction l with
  | nil => intro S i; rfl
  | cons q l ih => intro S i; simp only [settleL]; rw [ih]; simp
theorem torn_WB {a b : Blk} {n : Nat} (ha : WB a) (hb : WB b) : WB (torn a b n) := by
  unfold WB torn at *; simp; omega
theorem getD_WB {S : List Blk} (h : ∀ b ∈ S, WB b) {k : Nat} (hk : k < S.length) : WB (S.getD k []) := by
  rw [List.getD_eq_getElem?_getD, List.getElem?_eq_getElem hk]; exact h _ (by simp)
theorem settleL_WB (picks : List Int) (o : Nat) (l : List (Nat × Blk)) : ∀ (S : List Blk) (i : Nat), (∀ b ∈ S, WB b) → (∀ p ∈ l, p.1 < S.length ∧ WB p.2) → ∀ b ∈ settleL S picks o i l, WB b := by
  induction l with
  | nil => intro S i h _; exact h
  | cons q l ih =>
    intro S i h hl
    simp only [settleL]
    refine ih _ _ (fun b hb => ?_) (fun p hp => by rw [List.length_set]; exact hl p (by simp [hp]))
    rcases List.mem_or_eq_of_mem_set hb with hb | rfl
    · exact h b hb
    · exact torn_WB (getD_WB h (hl q (by simp)).1) (hl q (by simp)).2
theorem settle_wf {D : DS} {N : Nat} (h : D.wf N) (picks : List Int) (o : Nat) : (D.settle picks o).wf N :=
  ⟨by simp only [DS.settle, length_settleL]; exact h.lo, by simp only [DS.settle, length_settleL]; exact h.hi, settleL_WB _ _ _ _ _ h.wb h.lb, by simp [DS.settle], h.left0, h.left1, h.steps, by simp [DS.settle]⟩
theorem one_pc (p : Nat × Blk) : ∀ u ∈ pc p, u.oneCell' = true := by
  intro u hu; simp only [pc, List.mem_cons] at hu
  rcases hu with rfl | hu
  · rfl
  · exact one_cb _ u hu
theorem length_pc {p : Nat × Blk} (h : WB p.2) : (pc p).length = 129 := by simp [pc, WB] at *; exact h
theorem flatL_p (l : List (Nat × Blk)) (h : ∀ p ∈ l, WB p.2) (j : Nat) (hj : j < l.length) : ((flatL l).drop (j * 129)).take 129 = pc l[j] := by
  have := rows_get pc 129 l (fun x hx => length_pc (h x hx)) j hj 0 129 (by omega)
  rw [Nat.add_zero] at this
  rw [flatL, this, List.drop_zero, List.take_of_length_le (by rw [length_pc (h _ (by simp))]; omega)]
theorem length_flat {S : List Blk} (h : ∀ b ∈ S, WB b) : (flat S).length = S.length * 128 := length_rows cb 128 S fun x hx => by rw [length_cb]; exact h x hx
theorem flat_set {S : List Blk} (h : ∀ b ∈ S, WB b) {k : Nat} (hk : k < S.length) (b : Blk) (m : Nat) (hm : m ≤ 128) (hb : WB b) : setL (flat S) (k * 128) (cb (b.take m)) = flat (S.set k (torn (S.getD k []) b m)) := by
  have hg : S.getD k [] = S[k] := by simp [hk]
  have hw := h S[k] (by simp)
  have := rows_set cb 128 S (fun x hx => by rw [length_cb]; exact h x hx) k hk 0 (cb (b.take m)) (torn S[k] b m) (by simp [WB] at hb ⊢; omega) (by
    have e : (b.take m).length = m := by rw [List.length_take, hb]; omega
    rw [cb_setL, e]; simp [torn])
  rw [Nat.add_zero] at this
  rw [hg]; exact this
theorem flat_zs (k : Nat) : flat (List.replicate k zblk) = List.replicate (k * 128) (.int .u8 0) := by
  induction k with
  | zero => rfl
  | succ k ih =>
    have : flat (zblk :: List.replicate k zblk) = cb zblk ++ flat (List.replicate k zblk) := rfl
    rw [List.replicate_succ, this, ih, cb_z, List.replicate_append_replicate]
    congr 1; omega
theorem made_rep (v : Value) (m n : Nat) (hm : 0 < m) : (madeCells (List.replicate m v).toArray n).toList = List.replicate n v := by
  apply List.ext_getElem
  · simp [madeCells]
  · intro i h1 h2
    simp only [madeCells, Array.getElem_toList, Array.getElem_map, List.getElem_replicate]
    rw [getElem!_pos _ _ (by simp; exact Nat.mod_lt _ hm)]
    simp
theorem fill_put (k : Nat) (b : Blk) (hb : WB b) : fillL (fun i => [(0, 1), (1, 128)][i]?) (Value.agg ([(.int .i64 0)] ++ List.replicate 128 (.int .u8 0) : List Value).toArray).cells.toList [(0, .int .i64 (k : Int)), (1, .agg (cb b).toArray)] = some (pc (k, b)) := by
  have h : (cb b).length = 128 := by rw [length_cb]; exact hb
  simp [fillL, Value.cells, setL, h, pc]
theorem fill_one {sz : Nat} {cells vs : List Value} (h : vs.length = sz) (hc : cells.length = sz) : fillL (fun i => some (i * sz, sz)) cells [(0, .agg vs.toArray)] = some vs := by
  simp [fillL, Value.cells, setL, h, hc, List.drop_of_length_le]
/-- The last write to a block. -/
def lastOf (l : List (Nat × Blk)) (k : Nat) : Option (Nat × Blk) := l.reverse.find? (·.1 == k)
theorem lastOf_succ (l : List (Nat × Blk)) (k j : Nat) (h : j < l.length) : lastOf (l.take (j + 1)) k = if l[j].1 = k then some l[j] else lastOf (l.take j) k := by
  unfold lastOf
  rw [List.take_succ_eq_append_getElem h, List.reverse_append]
  simp only [List.reverse_cons, List.reverse_nil, List.nil_append, List.cons_append, List.find?_cons]
  by_cases e : l[j].1 = k
  · simp [e]
  · simp [e, beq_eq_false_iff_ne.2 e]
theorem flatL_n (l : List (Nat × Blk)) (h : ∀ p ∈ l, WB p.2) (j : Nat) (hj : j < l.length) : (flatL l)[j * 129]? = some (.int .i64 (l[j].1 : Int)) := by
  have := rows_at pc 129 l (fun x hx => by have := h x hx; simp [pc, WB] at this ⊢; exact this) j hj 0 (by omega)
  rw [Nat.add_zero] at this
  rw [flatL, this]; rfl
theorem flatL_b (l : List (Nat × Blk)) (h : ∀ p ∈ l, WB p.2) (j : Nat) (hj : j < l.length) : ((flatL l).drop (j * 129 + 1)).take 128 = cb l[j].2 := by
  have := rows_get pc 129 l (fun x hx => by have := h x hx; simp [pc, WB] at this ⊢; exact this) j hj 1 128 (by omega)
  rw [flatL, this]
  have hb := h l[j] (by simp)
  simp only [pc, List.drop_succ_cons, List.drop_zero]
  rw [List.take_of_length_le]; simp [WB] at hb ⊢; omega
end Go.Cx
/-! More rules of stepping: whole composites, and what the disk needs. -/
namespace Go.Cx
theorem WB.len {b : Blk} (h : WB b) : (cb b).length = 128 := by rw [length_cb]; exact h
theorem eqI {k : IntKind} {a b : Int} (h : a = b) : some (Value.int k a) = some (Value.int k b) := by rw [h]
theorem CellsAt.all {L L' : List Assn} {b t : Nat} {cs : List Value} (p : Pick (bk b t cs) L L') : CellsAt L b 0 cs := CellsAt.pick p (by simp)
theorem Upd.of {A A' : Assn} {L L' : List Assn} (u : Upd A A' L L') : Upd A A' L L' := u
/-- So many cells stand at a place in what is not the function's own. -/
def rdx (a : Option Addr) (len : Nat) (vs : List Value) (x : PH) : Prop :=
  len = 0 ∨ ∃ g off cs t fr, a = some ⟨g, off, none⟩ ∧ x g = some (.cells cs t fr) ∧ ∀ j u, vs[j]? = some u → cs[off + j]? = some u
theorem rdx_mono {a : Option Addr} {len : Nat} {vs : List Value} {x y : PH} (h : rdx a len vs x) (l : Le x y) : rdx a len vs y :=
  h.imp id fun ⟨g, off, cs, t, fr, e1, e2, e3⟩ => ⟨g, off, cs, t, fr, e1, l _ _ e2, e3⟩
theorem rdx_RdS {L : List Assn} {a : Option Addr} {len : Nat} {vs : List Value} (r : RdS L a len vs) : ∀ y, Sep L y → rdx a len vs y := fun y hy => (r.2 y hy).2
section
variable {P : Program} {ops : Array Oper} {Q : Exit → Act → World → Prop} {n : Nat} {e0 : World} {env : Env} {L : List Assn} {rest : List Oper} {K : Act → World → Prop}
variable {dst : Option Tmp} {ty : TypeId} {pos : String} {aft : Array Edge} {g : Option (Nat × Bool)} {op : Op}
/-- A store of a whole block's cells. -/
theorem CX.storeAll {t sz : Nat} [Z : SzT P t sz] {x y : Operand} {b bt : Nat} {cs vs : List Value} {L' : List Assn} (hg : gd ops n env g = some true) (hx : ev n env x = some (.pointer (some ⟨b, 0, none⟩)))
    (hy : ev n env y = some (.agg vs.toArray)) (hu : Upd (bk b bt cs) (bk b bt vs) L L') (hv : vs.length = sz) (hc : cs.length = sz) (ho : ∀ u ∈ vs, u.oneCell' = true)
    (h : CX P ops Q n e0 (putE env dst undef) L' rest) : CX P ops Q n e0 env L (⟨dst, .store t x y, ty, pos, aft, g⟩ :: rest) := by
  have e : setL cs 0 (Value.agg vs.toArray).cells.toList = vs := by simp [setL, Value.cells, hv, hc, List.drop_of_length_le]
  refine CX.storeC (Z := Z) (cs := cs) (bt := bt) hg hx hy (by simpa [Value.cells] using hv) (by simpa [Value.cells] using ho) ?_ (by omega) h
  rw [e]; exact hu
theorem CX.boxG {t : Nat} {x : Operand} {vs : List Value} (hg : gd ops n env g = some true) (hx : ev n env x = some (.agg vs.toArray))
    (h : ∀ b, CX P ops Q n e0 (putE env dst (.pointer (some ⟨b, 0, none⟩))) (bk b t vs :: L) rest) : CX P ops Q n e0 env L (⟨dst, .box t x, ty, pos, aft, g⟩ :: rest) := CX.box hg hx h
theorem PS.buildZ {t len e sz : Nat} {z : Value} [A : ArrA P t len e sz] [Z : ZeroA P t z] {vs : List Value} (hg : gd ops n env g = some true) (hz : z.cells.toList = vs) : PS P ops n env L ⟨dst, .build t #[], ty, pos, aft, g⟩ (.agg vs.toArray) :=
  PS.buildArr (Z := Z) (parts := []) (vs := []) hg rfl (by subst hz; rfl)
theorem CQ.mem {L' : List Assn} (hl : ∀ h, Sep L h → Sep L' h) (h : CQ K n e0 env L') : CQ K n e0 env L := fun a w hf hsep he => h a w hf (hl _ hsep) he
theorem PS.eqlB {t u e : Nat} [A : ArrA P t 128 e 1] [I : IntT P e .u8] [G : EqG P t] {x y : Operand} {a b : Blk} (hg : gd ops n env g = some true)
    (hx : ev n env x = some (.agg (cb a).toArray)) (hy : ev n env y = some (.agg (cb b).toArray)) (h1 : WB a) (h2 : WB b) :
    PS P ops n env L ⟨dst, .binOp .eql t x y u, ty, pos, aft, g⟩ (.bool (decide (a = b))) := by
  have := PS.eqlArr (P := P) (ops := ops) (L := L) (dst := dst) (ty := ty) (pos := pos) (aft := aft) (t := t) (u := u) (k := .u8) (xs := ib a) (ys := ib b) hg hx hy (by rw [length_ib]; exact h1) (by rw [length_ib]; exact h2)
  have e : decide (ib a = ib b) = decide (a = b) := by simp only [ib_inj]
  rw [e] at this; exact this
theorem PS.neqB {t u e : Nat} [A : ArrA P t 128 e 1] [I : IntT P e .u8] [G : EqG P t] {x y : Operand} {a b : Blk} (hg : gd ops n env g = some true)
    (hx : ev n env x = some (.agg (cb a).toArray)) (hy : ev n env y = some (.agg (cb b).toArray)) (h1 : WB a) (h2 : WB b) :
    PS P ops n env L ⟨dst, .binOp .neq t x y u, ty, pos, aft, g⟩ (.bool (decide (a ≠ b))) := by
  have := PS.neqArr (P := P) (ops := ops) (L := L) (dst := dst) (ty := ty) (pos := pos) (aft := aft) (t := t) (u := u) (k := .u8) (xs := ib a) (ys := ib b) hg hx hy (by rw [length_ib]; exact h1) (by rw [length_ib]; exact h2)
  have e : decide (ib a ≠ ib b) = decide (a ≠ b) := by simp only [ne_eq, ib_inj]
  rw [e] at this; exact this
theorem PS.toT {o : Oper} {p : Prop} {_ : Decidable p} (h : PS P ops n env L o (.bool (decide p))) (hp : p) : PS P ops n env L o (.bool true) := by rw [decide_eq_true hp] at h; exact h
theorem PS.toF {o : Oper} {p : Prop} {_ : Decidable p} (h : PS P ops n env L o (.bool (decide p))) (hp : ¬ p) : PS P ops n env L o (.bool false) := by rw [decide_eq_false hp] at h; exact h
/-- Ways that meet again. -/
def JS {X : Type} (n : Nat) (e0 : World) (E : X → Env) (M : X → List Assn) (good : X → Prop) (a : Act) (w : World) : Prop := ∃ x, good x ∧ Fr n (E x) a ∧ Sep (M x) w.ph ∧ Env0 e0 w
theorem CC.join {c y : Code} {Q' : Exit → Act → World → Prop} {X : Type} (E : X → Env) (M : X → List Assn) (good : X → Prop) (h1 : CC P c (Exit.then (JS n e0 E M good) Q') n e0 env L) (h2 : ∀ x, good x → CC P y Q n e0 (E x) (M x)) :
    CC P c (Exit.then (y.wp P Q) Q') n e0 env L := fun a w hf hs he => Code.wp_mono (fun e a w h => by
      cases e with
      | normal => obtain ⟨x, hx, h1, h3, h4⟩ := h; exact h2 x hx a w h1 h3 h4
      | _ => exact h) (h1 a w hf hs he)
theorem CQ.joined {Q' : Exit → Act → World → Prop} {X : Type} {E : X → Env} {M : X → List Assn} {good : X → Prop} (x : X) (hx : good x) (hs : Sub env (E x)) {R : List Assn} (hl : Sel L (M x) R) :
    CQ (Exit.then (JS n e0 E M good) Q' .normal) n e0 env L := fun a w hf hsep he => ⟨x, hx, hf.sub hs, (hl.sep hsep).left, he⟩
/-- The first cells of an array that stands in memory. -/
theorem PS.sliceArrHi {t N e sz : Nat} [A : ArrA P t N e sz] {x y : Operand} {b o h : Nat} {k : IntKind} {z : Int} (hg : gd ops n env g = some true) (hx : ev n env x = some (.pointer (some ⟨b, o, none⟩)))
    (hy : ev n env y = some (.int k z)) (hz : z = (h : Int)) (hc : h ≤ N) :
    PS P ops n env L ⟨dst, .slice t x none (some y) none, ty, pos, aft, g⟩ (.slice (some ⟨b, o, none⟩) h N) := by
  subst hz
  have := PS.sliceArr (P := P) (ops := ops) (n := n) (env := env) (L := L) (dst := dst) (ty := ty) (pos := pos) (aft := aft) (g := g) (t := t) (lo := none) (hi := some y) (l := 0) (h := h) hg hx rfl (by simp [bndV, hy]) (.inl ⟨rfl, rfl⟩) (.inr ⟨k, rfl⟩) (Nat.zero_le _) hc
  have e : cutAt (some ⟨b, o, none⟩) 0 N sz = some ⟨b, o, none⟩ := by unfold cutAt; split <;> simp [addr_add]
  rw [e] at this; simpa using this
theorem PS.sliceHi {t e sz : Nat} [E : ElemA P t e sz] {x y : Operand} {a : Option Addr} {len cap h : Nat} {k : IntKind} {z : Int} (hg : gd ops n env g = some true) (hx : ev n env x = some (.slice a len cap)) (ha : a = none ∨ ∃ b o, a = some ⟨b, o, none⟩)
    (hy : ev n env y = some (.int k z)) (hz : z = (h : Int)) (hc : h ≤ cap) :
    PS P ops n env L ⟨dst, .slice t x none (some y) none, ty, pos, aft, g⟩ (.slice a h cap) := by
  subst hz
  have := PS.slice (P := P) (ops := ops) (n := n) (env := env) (L := L) (dst := dst) (ty := ty) (pos := pos) (aft := aft) (g := g) (t := t) (lo := none) (hi := some y) (l := 0) (h := h) hg hx rfl (by simp [bndV, hy]) (.inl ⟨rfl, rfl⟩) (.inr ⟨k, rfl⟩) (Nat.zero_le _) hc
  have e : cutAt a 0 cap sz = a := by
    rcases ha with rfl | ⟨b, o, rfl⟩ <;> unfold cutAt <;> split <;> simp [addr_add]
  rw [e] at this; simpa using this
/-- A slice from a place on, of one whose room reaches further. -/
theorem PS.sliceLo {t e sz : Nat} [E : ElemA P t e sz] {x y : Operand} {b o len cap l : Nat} {k : IntKind} {z : Int} (hg : gd ops n env g = some true) (hx : ev n env x = some (.slice (some ⟨b, o, none⟩) len cap))
    (hy : ev n env y = some (.int k z)) (hz : z = (l : Int)) (hl : l ≤ len) (hc : len ≤ cap) :
    PS P ops n env L ⟨dst, .slice t x (some y) none none, ty, pos, aft, g⟩ (.slice (some ⟨b, if cap = l then o else o + l * sz, none⟩) (len - l) (cap - l)) := by
  subst hz
  have := PS.slice (P := P) (ops := ops) (n := n) (env := env) (L := L) (dst := dst) (ty := ty) (pos := pos) (aft := aft) (g := g) (t := t) (lo := some y) (hi := none) (l := l) (h := len) hg hx (by simp [bndV, hy]) rfl (.inr ⟨k, rfl⟩) (.inl ⟨rfl, rfl⟩) hl hc
  have e : cutAt (some ⟨b, o, none⟩) l cap sz = some ⟨b, if cap = l then o else o + l * sz, none⟩ := by unfold cutAt; split <;> simp [addr_add]
  rw [e] at this; exact this
end
end Go.Cx
/-! Rules whose small premises prove themselves. -/
namespace Go.Cx
/-- What an operation yields that only reckons. -/
def pv (n : Nat) (env : Env) : Op → Option Value
  | .move x => ev n env x
  | .assign x => ev n env x
  | .extract x i => match ev n env x with | some (.tuple vs) => vs[i]? | _ => none
  | .nilCheck x => match ev n env x with | some (.pointer (some a)) => some (.pointer (some a)) | _ => none
  | .pick c x y => match ev n env c with | some (.bool true) => ev n env x | some (.bool false) => ev n env y | _ => none
  | .unOp .not _ x => match ev n env x with | some (.bool b) => some (.bool (!b)) | _ => none
  | _ => none
def cv (n : Nat) (env : Env) (o : BinOp) (x y : Operand) : Option Value :=
  match ev n env x, ev n env y with
  | some (.int k p), some (.int k' q) => if k = k' then
      (match o with
      | .lss => some (.bool (decide (p < q)))
      | .leq => some (.bool (decide (p ≤ q)))
      | .gtr => some (.bool (decide (q < p)))
      | .geq => some (.bool (decide (q ≤ p)))
      | .eql => some (.bool (decide (p = q)))
      | .neq => some (.bool (decide (p ≠ q)))
      | _ => none) else none
  | _, _ => none
def av (n : Nat) (env : Env) (o : BinOp) (x y : Operand) : Option (IntKind × Int) :=
  match ev n env x, ev n env y with
  | some (.int k p), some (.int k' q) => if k = k' then
      (match o with
      | .add => some (k, p + q)
      | .sub => some (k, p - q)
      | .mul => some (k, p * q)
      | _ => none) else none
  | _, _ => none
def inR : IntKind → Int → Prop
  | .i64, z => -9223372036854775808 ≤ z ∧ z ≤ 9223372036854775807
  | .u64, z => 0 ≤ z ∧ z ≤ 18446744073709551615
  | .u32, z => 0 ≤ z ∧ z ≤ 4294967295
  | .u8, z => 0 ≤ z ∧ z ≤ 255
  | _, _ => False
theorem inR_wrap {k : IntKind} {z : Int} (h : inR k z) : k.wrap z = z := by
  cases k <;> simp only [inR] at h <;> first | exact wr_i64 h.1 h.2 | exact wr_u64 h.1 (by omega) | exact wr_u32 h.1 (by omega) | exact wr_u8 h.1 (by omega)
section
variable {P : Program} {ops : Array Oper} {Q : Exit → Act → World → Prop} {n : Nat} {e0 : World} {env : Env} {L L' : List Assn} {rest : List Oper} {K : Act → World → Prop}
variable {dst : Option Tmp} {ty : TypeId} {pos : String} {aft : Array Edge} {g : Option (Nat × Bool)} {op : Op}
theorem PS.auto {v : Value} (hg : gd ops n env g = some true) (h : pv n env op = some v) : PS P ops n env L ⟨dst, op, ty, pos, aft, g⟩ v := by
  unfold pv at h
  split at h
  · exact PS.move hg h
  · exact PS.assign hg h
  · split at h
    · exact PS.extract hg (by assumption) h
    · cases h
  · split at h
    · cases h; exact PS.nilCheck hg (by assumption)
    · cases h
  · split at h
    · exact PS.pickT hg (by assumption) h
    · exact PS.pickF hg (by assumption) h
    · cases h
  · split at h
    · cases h; exact PS.not hg (by assumption)
    · cases h
  · cases h
theorem PS.cmp {o : BinOp} {t u : TypeId} {x y : Operand} {v : Value} (hg : gd ops n env g = some true) (h : cv n env o x y = some v) : PS P ops n env L ⟨dst, .binOp o t x y u, ty, pos, aft, g⟩ v := by
  unfold cv at h
  split at h
  · rename_i k p k' q hx hy
    split at h
    · rename_i hk; subst hk
      split at h <;> first | (cases h; first | exact PS.lss hg hx hy | exact PS.leq hg hx hy | exact PS.gtr hg hx hy | exact PS.geq hg hx hy | exact PS.eql hg hx hy | exact PS.neq hg hx hy) | cases h
    · cases h
  · cases h
theorem PS.cmpT {o : BinOp} {t u : TypeId} {x y : Operand} {p : Prop} {_ : Decidable p} (hg : gd ops n env g = some true) (h : cv n env o x y = some (.bool (decide p))) (hp : p) : PS P ops n env L ⟨dst, .binOp o t x y u, ty, pos, aft, g⟩ (.bool true) := (PS.cmp hg h).toT hp
theorem PS.cmpF {o : BinOp} {t u : TypeId} {x y : Operand} {p : Prop} {_ : Decidable p} (hg : gd ops n env g = some true) (h : cv n env o x y = some (.bool (decide p))) (hp : ¬ p) : PS P ops n env L ⟨dst, .binOp o t x y u, ty, pos, aft, g⟩ (.bool false) := (PS.cmp hg h).toF hp
theorem PS.arith {o : BinOp} {t u : TypeId} {x y : Operand} {k : IntKind} {z : Int} (hg : gd ops n env g = some true) (h : av n env o x y = some (k, z)) (hr : inR k z) : PS P ops n env L ⟨dst, .binOp o t x y u, ty, pos, aft, g⟩ (.int k z) := by
  unfold av at h
  split at h
  · rename_i k1 p k' q hx hy
    split at h
    · rename_i hk; subst hk
      split at h <;> first | (cases h; first | exact PS.add hg hx hy (inR_wrap hr) | exact PS.sub hg hx hy (inR_wrap hr) | exact PS.mul hg hx hy (inR_wrap hr)) | cases h
    · cases h
  · cases h
theorem PS.convR {s t : TypeId} {k k' : IntKind} [I : IntT P s k] [J : IntT P t k'] {x : Operand} {p : Int} (hg : gd ops n env g = some true) (hx : ev n env x = some (.int k p)) (hr : inR k' p) :
    PS P ops n env L ⟨dst, .convert s t x, ty, pos, aft, g⟩ (.int k' p) := PS.convI hg hx (inR_wrap hr)

theorem CX.psA {v : Value} (h : CX P ops Q n e0 (putE env dst v) L rest) (hp : PS P ops n env L ⟨dst, op, ty, pos, aft, g⟩ v := by first | (apply PS.cmpT; (· rfl); (· rfl); (· first | assumption | omega | rfl | decide)) | (apply PS.cmpF; (· rfl); (· rfl); (· first | assumption | omega | rfl | decide)) | (apply PS.cmp <;> rfl) | (apply PS.notD <;> rfl) | (apply PS.auto <;> rfl) | (apply PS.fieldAddr <;> rfl) | (apply PS.load; (· rfl); (· rfl); (· apply CellAt.pick; (· first | exact pickA | exact updA); (· rfl))) | (apply PS.arith; (· rfl); (· rfl); (· simp only [inR]; omega)) | (apply PS.convR; (· rfl); (· rfl); (· simp only [inR]; omega)) | (apply PS.lenSl <;> rfl) | (apply PS.capSl <;> rfl) | (apply PS.maxI <;> rfl) | (apply PS.minI <;> rfl) | (apply PS.eqlPtrNil <;> rfl) | (apply PS.neqPtrNil <;> rfl) | (apply PS.eqlSlNil <;> rfl) | (apply PS.makeFunc <;> rfl) | (apply PS.fieldS <;> rfl)) : CX P ops Q n e0 env L (⟨dst, op, ty, pos, aft, g⟩ :: rest) := CX.ps hp h
theorem CX.skipA (h : CX P ops Q n e0 (putE env dst undef) L rest) (hg : gd ops n env g = some false := by rfl) : CX P ops Q n e0 env L (⟨dst, op, ty, pos, aft, g⟩ :: rest) := CX.skip hg h
theorem CX.storeA {t : Nat} [Z : SzT P t 1] {x y : Operand} {b o bt : Nat} {cs : List Value} {v : Value} (h : CX P ops Q n e0 (putE env dst undef) L' rest) (hg : gd ops n env g = some true := by rfl) (hx : ev n env x = some (.pointer (some ⟨b, o, none⟩)) := by rfl)
    (hy : ev n env y = some v := by rfl) (hv : v.oneCell' = true := by rfl) (hu : Upd (bk b bt cs) (bk b bt (cs.set o v)) L L' := by first | exact pickA | exact updA) (hl : Nat.blt o cs.length = true := by rfl) :
    CX P ops Q n e0 env L (⟨dst, .store t x y, ty, pos, aft, g⟩ :: rest) := CX.store hg hx hy hv hu hl h
theorem CC.condTA {c : Operand} {x y : Code} (h : CC P x Q n e0 env L) (hc : ev n env c = some (.bool true) := by rfl) : CC P (.cond c x y) Q n e0 env L := CC.condT hc h
theorem CC.condFA {c : Operand} {x y : Code} (h : CC P y Q n e0 env L) (hc : ev n env c = some (.bool false) := by rfl) : CC P (.cond c x y) Q n e0 env L := CC.condF hc h
theorem CC.condDTA {c : Operand} {x y : Code} {p : Prop} {_ : Decidable p} (h : CC P x Q n e0 env L) (hc : ev n env c = some (.bool (decide p)) := by rfl) (hp : p := by first | assumption | omega) : CC P (.cond c x y) Q n e0 env L := CC.condDT hc hp h
theorem CC.condDFA {c : Operand} {x y : Code} {p : Prop} {_ : Decidable p} (h : CC P y Q n e0 env L) (hc : ev n env c = some (.bool (decide p)) := by rfl) (hp : ¬ p := by first | assumption | omega) : CC P (.cond c x y) Q n e0 env L := CC.condDF hc hp h
theorem CQ.blockYA {id id' : Nat} (h : CQ (Q (.exit id')) n e0 env L) (hne : Nat.beq id' id = false := by rfl) : CQ (Exit.inBlock id Q (.exit id')) n e0 env L := CQ.blockY hne h
theorem CX.callA {f : FuncId} [F : HasFn P f] {xs : List Operand} {tys : Array TypeId} {args : List Value} {H : List Assn} {pre : PH → Prop} {post : Value → List Assn → Prop} (S : Ctr P f args H pre post)
    (h : ∀ v M, post v M → CX P ops Q n e0 (putE env dst v) (M ++ L') rest) (hg : gd ops n env g = some true := by rfl) (hx : evs n env xs = some args := by rfl) (hsel : Sel L H L' := by exact selA) (hpre : ∀ x, Sep L' x → pre x := by exact fun _ _ => trivial) :
    CX P ops Q n e0 env L (⟨dst, .call ⟨.value (.func f), xs.toArray, tys⟩, ty, pos, aft, g⟩ :: rest) := CX.call hg hx S hsel hpre h
theorem CX.allocA {t : Nat} {v : Value} [Z : ZeroA P t v] (h : ∀ b, CX P ops Q n e0 (putE env dst (.pointer (some ⟨b, 0, none⟩))) (bk b t v.cells.toList :: L) rest) (hg : gd ops n env g = some true := by rfl) : CX P ops Q n e0 env L (⟨dst, .alloc t, ty, pos, aft, g⟩ :: rest) := CX.alloc hg h
theorem CX.allocZ {t : Nat} {v : Value} [Z : ZeroA P t v] (cs : List Value) (h : ∀ b, CX P ops Q n e0 (putE env dst (.pointer (some ⟨b, 0, none⟩))) (bk b t cs :: L) rest) (hv : v.cells.toList = cs := by simp [cb_z, Value.cells]) (hg : gd ops n env g = some true := by rfl) :
    CX P ops Q n e0 env L (⟨dst, .alloc t, ty, pos, aft, g⟩ :: rest) := CX.allocAs cs hv hg h
theorem CX.boxA {t : Nat} {x : Operand} {vs : List Value} (h : ∀ b, CX P ops Q n e0 (putE env dst (.pointer (some ⟨b, 0, none⟩))) (bk b t vs :: L) rest) (hg : gd ops n env g = some true := by rfl) (hx : ev n env x = some (.agg vs.toArray) := by rfl) :
    CX P ops Q n e0 env L (⟨dst, .box t x, ty, pos, aft, g⟩ :: rest) := CX.boxG hg hx h
theorem CX.loadA {t : Nat} [S : TyS P t] {x : Operand} {b o : Nat} (v : Value) (hc : CellAt L b o v) (h : CX P ops Q n e0 (putE env dst v) L rest) (hg : gd ops n env g = some true := by rfl) (hx : ev n env x = some (.pointer (some ⟨b, o, none⟩)) := by rfl) :
    CX P ops Q n e0 env L (⟨dst, .load t x, ty, pos, aft, g⟩ :: rest) := CX.ps (PS.load hg hx hc) h
theorem CX.loadGA {t sz : Nat} [G : TyG P t sz] {x : Operand} {b o : Nat} (vs : List Value) (hc : CellsAt L b o vs) (hl : vs.length = sz) (h : CX P ops Q n e0 (putE env dst (.agg vs.toArray)) L rest) (hg : gd ops n env g = some true := by rfl) (hx : ev n env x = some (.pointer (some ⟨b, o, none⟩)) := by rfl) :
    CX P ops Q n e0 env L (⟨dst, .load t x, ty, pos, aft, g⟩ :: rest) := CX.ps (PS.loadG hg hx hc hl) h
theorem CX.storeB {t sz : Nat} [Z : SzT P t sz] {x y : Operand} {b bt : Nat} {cs vs : List Value} (hv : vs.length = sz) (hc : cs.length = sz) (ho : ∀ u ∈ vs, u.oneCell' = true) (h : CX P ops Q n e0 (putE env dst undef) L' rest)
    (hg : gd ops n env g = some true := by rfl) (hx : ev n env x = some (.pointer (some ⟨b, 0, none⟩)) := by rfl) (hy : ev n env y = some (.agg vs.toArray) := by rfl) (hu : Upd (bk b bt cs) (bk b bt vs) L L' := by first | exact pickA | exact updA) :
    CX P ops Q n e0 env L (⟨dst, .store t x y, ty, pos, aft, g⟩ :: rest) := CX.storeAll hg hx hy hu hv hc ho h
theorem CX.indexA {t e sz : Nat} [E : ElemA P t e sz] {x y : Operand} {b o len cap : Nat} (j : Nat) {k : IntKind} {i : Int} (hl : j < len) (h : CX P ops Q n e0 (putE env dst (.pointer (some ⟨b, o + j * sz, none⟩))) L rest)
    (hg : gd ops n env g = some true := by rfl) (hx : ev n env x = some (.slice (some ⟨b, o, none⟩) len cap) := by rfl) (hy : ev n env y = some (.int k i) := by rfl) (hi : i = (j : Int) := by first | rfl | omega) :
    CX P ops Q n e0 env L (⟨dst, .indexAddr t x y, ty, pos, aft, g⟩ :: rest) := CX.ps (PS.indexAddr hg hx hy hi hl) h
theorem CX.indexOA {t e sz : Nat} [E : ElemA P t e sz] {x y : Operand} {a : Option Addr} {len cap : Nat} (j : Nat) {k : IntKind} {i : Int} {xs : List Value} {M : List Assn} (hl : j < len)
    (h : ∀ b, a = some ⟨b, 0, none⟩ → CX P ops Q n e0 (putE env dst (.pointer (some ⟨b, j * sz, none⟩))) L rest) (hg : gd ops n env g = some true := by rfl) (hx : ev n env x = some (.slice a len cap) := by rfl)
    (hy : ev n env y = some (.int k i) := by rfl) (hi : i = (j : Int) := by first | rfl | omega) (p : Pick (own e sz a len cap xs) L M := by first | exact pickA | exact updA) : CX P ops Q n e0 env L (⟨dst, .indexAddr t x y, ty, pos, aft, g⟩ :: rest) := CX.indexOwn hg hx hy hi p hl h
variable {R : List Assn} {s : Order} {T : Nat → Bool}
theorem CH.pureA {i : Nat} {v : Value} (h : CH P ops Q n e0 T R (putE env dst v) L s) (ho : ops[i]? = some ⟨dst, op, ty, pos, aft, g⟩ := by rfl) (hp : PS P ops n env [] ⟨dst, op, ty, pos, aft, g⟩ v := by first | (apply PS.cmpT; (· rfl); (· rfl); (· first | assumption | omega | rfl | decide)) | (apply PS.cmpF; (· rfl); (· rfl); (· first | assumption | omega | rfl | decide)) | (apply PS.cmp <;> rfl) | (apply PS.notD <;> rfl) | (apply PS.auto <;> rfl) | (apply PS.fieldAddr <;> rfl) | (apply PS.load; (· rfl); (· rfl); (· apply CellAt.pick; (· first | exact pickA | exact updA); (· rfl))) | (apply PS.arith; (· rfl); (· rfl); (· simp only [inR]; omega)) | (apply PS.convR; (· rfl); (· rfl); (· simp only [inR]; omega)) | (apply PS.lenSl <;> rfl) | (apply PS.capSl <;> rfl) | (apply PS.maxI <;> rfl) | (apply PS.minI <;> rfl) | (apply PS.eqlPtrNil <;> rfl) | (apply PS.neqPtrNil <;> rfl) | (apply PS.eqlSlNil <;> rfl) | (apply PS.makeFunc <;> rfl) | (apply PS.fieldS <;> rfl)) : CH P ops Q n e0 T R env L ((i, 0) :: s) := CH.pure ho hp h
theorem CH.readA {i : Nat} {v : Value} {M : List Assn} (h : CH P ops Q n e0 T R (putE env dst v) L s) (ho : ops[i]? = some ⟨dst, op, ty, pos, aft, g⟩ := by rfl) (hp : PS P ops n env R ⟨dst, op, ty, pos, aft, g⟩ v := by first | (apply PS.cmpT; (· rfl); (· rfl); (· first | assumption | omega | rfl | decide)) | (apply PS.cmpF; (· rfl); (· rfl); (· first | assumption | omega | rfl | decide)) | (apply PS.cmp <;> rfl) | (apply PS.notD <;> rfl) | (apply PS.auto <;> rfl) | (apply PS.fieldAddr <;> rfl) | (apply PS.load; (· rfl); (· rfl); (· apply CellAt.pick; (· first | exact pickA | exact updA); (· rfl))) | (apply PS.arith; (· rfl); (· rfl); (· simp only [inR]; omega)) | (apply PS.convR; (· rfl); (· rfl); (· simp only [inR]; omega)) | (apply PS.lenSl <;> rfl) | (apply PS.capSl <;> rfl) | (apply PS.maxI <;> rfl) | (apply PS.minI <;> rfl) | (apply PS.eqlPtrNil <;> rfl) | (apply PS.neqPtrNil <;> rfl) | (apply PS.eqlSlNil <;> rfl) | (apply PS.makeFunc <;> rfl) | (apply PS.fieldS <;> rfl)) (hr : Sel L R M := by exact selA) : CH P ops Q n e0 T R env L ((i, 1) :: s) := CH.read ho hp hr h
theorem CH.skA {i k : Nat} (h : CH P ops Q n e0 T R (putE env dst undef) L s) (hk : Nat.ble k 1 = true := by rfl) (ho : ops[i]? = some ⟨dst, op, ty, pos, aft, g⟩ := by rfl) (hg : gd ops n env g = some false := by rfl) : CH P ops Q n e0 T R env L ((i, k) :: s) := CH.skip hk ho hg h
theorem CH.skCA {i k : Nat} (h : CH P ops Q n e0 T R (putE env dst undef) L s) (hk : Nat.ble k 1 = false := by rfl) (ho : ops[i]? = some ⟨dst, op, ty, pos, aft, g⟩ := by rfl) (hg : gd ops n env g = some false := by rfl) : CH P ops Q n e0 T R env L ((i, k) :: s) := CH.skipC hk ho hg h
end
/-- As many steps as go by themselves. -/
structure Hd (q : Prop) : Prop where
  g : q
theorem wk {p q : Prop} (h : q) (k : Hd q → p := by intro h; (repeat (first | refine CX.psA ?_ | refine CX.nil ?_ | refine CQ.thenN ?_ | refine CQ.thenR ?_ | refine CQ.thenX ?_ | refine CQ.blockN ?_ | refine CQ.blockR ?_ | refine CQ.blockX ?_ | refine CQ.blockYA ?_ | refine CC.seq ?_ | refine CC.block ?_ | refine CC.region ?_ | refine CC.skip ?_ | refine CC.ret ?_ | refine CC.exit ?_ | refine CC.condTA ?_ | refine CC.condFA ?_ | refine CC.condDTA ?_ | refine CC.condDFA ?_ | refine CX.storeA ?_ | refine CX.skipA ?_)); exact h.g) : p := k ⟨h⟩
theorem wnk {p q : Prop} (h : q) (k : Hd q → p := by intro h; (repeat (first | refine CX.psA ?_ | refine CX.nil ?_ | refine CQ.thenN ?_ | refine CQ.thenX ?_ | refine CQ.blockN ?_ | refine CQ.blockX ?_ | refine CQ.blockYA ?_ | refine CC.seq ?_ | refine CC.block ?_ | refine CC.skip ?_ | refine CC.exit ?_ | refine CC.condTA ?_ | refine CC.condFA ?_ | refine CC.condDTA ?_ | refine CC.condDFA ?_ | refine CX.storeA ?_ | refine CX.skipA ?_)); exact h.g) : p := k ⟨h⟩
theorem hwk {p q : Prop} (h : q) (k : Hd q → p := by intro h; (repeat (first | refine CH.pureA ?_ | refine CH.readA ?_ | refine CH.skA ?_ | refine CH.skCA ?_ | refine CH.nil ?_)); exact h.g) : p := k ⟨h⟩
end Go.Cx
/-! Bits of whole numbers that are not negative. -/
namespace Go.Cx
def uns (k : IntKind) : Bool := match k with | .u8 => true | .u32 => true | .u64 => true | _ => false
theorem wrap_uns {k : IntKind} (h : uns k = true) {r : Nat} (hr : r < 2 ^ k.bits) : k.wrap (r : Int) = (r : Int) := by
  cases k <;> simp only [uns, IntKind.bits] at h hr <;> first | exact wr_u8 (by omega) (by omega) | exact wr_u32 (by omega) (by omega) | exact wr_u64 (by omega) (by omega) | exact absurd h (by decide)
section
variable {P : Program} {ops : Array Oper} {n : Nat} {env : Env} {L : List Assn}
variable {dst : Option Tmp} {ty : TypeId} {pos : String} {aft : Array Edge} {g : Option (Nat × Bool)}
theorem run_xor {k : IntKind} (h : uns k = true) {a b : Nat} (ha : a < 2 ^ k.bits) (hb : b < 2 ^ k.bits) (w : World) : (Op.intBits .xor k (a : Int) (b : Int)).run P w = .ok (.int k ((a ^^^ b : Nat) : Int)) w := by
  have h1 : a ^^^ b < 2 ^ k.bits := Nat.xor_lt_two_pow ha hb
  simp [Op.intBits, Nat.mod_eq_of_lt ha, Nat.mod_eq_of_lt hb, wrap_uns h h1]
theorem run_and {k : IntKind} (h : uns k = true) {a b : Nat} (ha : a < 2 ^ k.bits) (hb : b < 2 ^ k.bits) (w : World) : (Op.intBits .and k (a : Int) (b : Int)).run P w = .ok (.int k ((a &&& b : Nat) : Int)) w := by
  have h1 : a &&& b < 2 ^ k.bits := Nat.and_lt_two_pow a hb
  simp [Op.intBits, Nat.mod_eq_of_lt ha, Nat.mod_eq_of_lt hb, wrap_uns h h1]
theorem run_or {k : IntKind} (h : uns k = true) {a b : Nat} (ha : a < 2 ^ k.bits) (hb : b < 2 ^ k.bits) (w : World) : (Op.intBits .or k (a : Int) (b : Int)).run P w = .ok (.int k ((a ||| b : Nat) : Int)) w := by
  have h1 : a ||| b < 2 ^ k.bits := Nat.or_lt_two_pow ha hb
  simp [Op.intBits, Nat.mod_eq_of_lt ha, Nat.mod_eq_of_lt hb, wrap_uns h h1]
theorem PS.xorN {t u : TypeId} {x y : Operand} {k : IntKind} (a b : Nat) (h : uns k = true) (ha : a < 2 ^ k.bits) (hb : b < 2 ^ k.bits) (hg : gd ops n env g = some true) (hx : ev n env x = some (.int k (a : Int))) (hy : ev n env y = some (.int k (b : Int))) :
    PS P ops n env L ⟨dst, .binOp .xor t x y u, ty, pos, aft, g⟩ (.int k ((a ^^^ b : Nat) : Int)) :=
  ⟨hg, fun a' w hf _ => by simp [execOp, hf.eval hx, hf.eval hy, eqGuard_int, Go.binOp, run_xor h ha hb]⟩
theorem PS.andN {t u : TypeId} {x y : Operand} {k : IntKind} (a b : Nat) (h : uns k = true) (ha : a < 2 ^ k.bits) (hb : b < 2 ^ k.bits) (hg : gd ops n env g = some true) (hx : ev n env x = some (.int k (a : Int))) (hy : ev n env y = some (.int k (b : Int))) :
    PS P ops n env L ⟨dst, .binOp .and t x y u, ty, pos, aft, g⟩ (.int k ((a &&& b : Nat) : Int)) :=
  ⟨hg, fun a' w hf _ => by simp [execOp, hf.eval hx, hf.eval hy, eqGuard_int, Go.binOp, run_and h ha hb]⟩
theorem PS.orN {t u : TypeId} {x y : Operand} {k : IntKind} (a b : Nat) (h : uns k = true) (ha : a < 2 ^ k.bits) (hb : b < 2 ^ k.bits) (hg : gd ops n env g = some true) (hx : ev n env x = some (.int k (a : Int))) (hy : ev n env y = some (.int k (b : Int))) :
    PS P ops n env L ⟨dst, .binOp .or t x y u, ty, pos, aft, g⟩ (.int k ((a ||| b : Nat) : Int)) :=
  ⟨hg, fun a' w hf _ => by simp [execOp, hf.eval hx, hf.eval hy, eqGuard_int, Go.binOp, run_or h ha hb]⟩
theorem run_neBool {t : TypeId} (hu : P.underlying t = some .bool) (a b : Bool) (w : World) : (Go.binOp .neq t (.bool a) (.bool b)).run P w = .ok (.bool (a != b)) w := by
  have h : ∀ k : Nat, (Op.equalIn (k + 1) t (.bool a) (.bool b)).run P w = .ok (a == b) w := fun k => by simp [Op.equalIn, run_underlying hu]
  simp only [Go.binOp]
  simp [Op.equal, Op.maxDepth, h 9999, bne]
theorem PS.neqBoolF {t u : TypeId} {x y : Operand} {a b : Bool} (hu : P.underlying t = some .bool) (hg : gd ops n env g = some true) (hx : ev n env x = some (.bool a)) (hy : ev n env y = some (.bool b)) (hab : a = b) :
    PS P ops n env L ⟨dst, .binOp .neq t x y u, ty, pos, aft, g⟩ (.bool false) :=
  ⟨hg, fun ac w hf _ => by subst hab; simp [execOp, hf.eval hx, hf.eval hy, eqGuard, run_neBool hu]⟩
variable {Q : Exit → Act → World → Prop} {e0 : World} {rest : List Oper}
theorem run_buildSl0 {t e sz : Nat} (E : P.underlying t = some (.slice e)) (hs : ∀ w, (sizeOf e).run P w = .ok sz w) (w : World) : (Instr.buildSlice t 0 #[]).run P w = .ok (.slice (some ⟨w.heap.size, 0, none⟩) 0 0) (w.alloc (.cells #[] e)) := by
  simp [Instr.buildSlice, Sem.run_bind, run_underlying E, hs, Instr.fill, newRow, newObj, Sem.run]
  have : (Array.range 0) = #[] := by decide
  rw [this]; simp
/-- A slice of nothing that is not nil. -/
theorem CX.buildSl0 {t e sz : Nat} [E : ElemA P t e sz] (h : ∀ b, CX P ops Q n e0 (putE env dst (.slice (some ⟨b, 0, none⟩) 0 0)) (own e sz (some ⟨b, 0, none⟩) 0 0 [] :: L) rest) (hg : gd ops n env g = some true := by rfl) :
    CX P ops Q n e0 env L (⟨dst, .buildSlice t 0 #[], ty, pos, aft, g⟩ :: rest) := by
  refine CX.step hg fun a w hfr hs he K hK => ?_
  have hr2 : (execOp a.eval ⟨dst, .buildSlice t 0 #[], ty, pos, aft, g⟩).run P w = .ok (.value (.slice (some ⟨w.heap.size, 0, none⟩) 0 0)) (w.alloc (.cells #[] e)) := by
    have := run_buildSl0 E.under E.size w
    simp only [execOp, Sem.run_bind, List.map_toArray, List.map_nil, Array.map_empty, this, Result.andThen_ok, Sem.run_pure]
  unfold Oper.wp
  rw [hr2]
  refine hK _ _ (h w.heap.size _ _ (hfr.put dst _) ?_ (he.trans ⟨rfl, rfl, rfl⟩))
  rw [ph_alloc]
  exact hs.push (ph_size w) fun k hk => own_ok.2 ⟨by simp, Nat.le_refl _, Nat.zero_le _, .inr ⟨_, #[], rfl, hk, by simp, by simp⟩⟩
theorem CQ.fact {K : Act → World → Prop} {p : Prop} (hp : ∀ h, Sep L h → p) (h : p → CQ K n e0 env L) : CQ K n e0 env L := fun a w hf hs he => h (hp _ hs) a w hf hs he
/-- Where an owned slice stands that is not empty. -/
theorem own_some {e sz m cap : Nat} {a : Option Addr} {xs : List Value} {h : PH} (o : (own e sz a m cap xs).ok h) : a = none ∧ m = 0 ∧ cap = 0 ∨ ∃ b, a = some ⟨b, 0, none⟩ := by
  obtain ⟨h1, h2, h3, h4⟩ := own_ok.1 o
  rcases h4 with ⟨rfl, rfl⟩ | ⟨g, _, rfl, _⟩
  · exact .inl ⟨rfl, by omega, rfl⟩
  · exact .inr ⟨g, rfl⟩
end
end Go.Cx
/-! Numbers as bytes, rests, sealed blocks: plain laws. No program in sight. -/
namespace Go.Cx
/-! ### Numbers as bytes -/
def le : Nat → Nat → Blk
  | 0, _ => []
  | k + 1, n => UInt8.ofNat n :: le k (n / 256)
def ofLe : Blk → Nat
  | [] => 0
  | b :: r => b.toNat + 256 * ofLe r
@[simp] theorem length_le (k n : Nat) : (le k n).length = k := by
  induction k generalizing n with
  | zero => rfl
  | succ k ih => simp [le, ih]
theorem ofLe_lt (b : Blk) : ofLe b < 256 ^ b.length := by
  induction b with
  | nil => simp [ofLe]
  | cons x b ih =>
    have := x.toNat_lt
    simp only [ofLe, List.length_cons, Nat.pow_succ]
    omega
theorem ofLe_le (k n : Nat) (h : n < 256 ^ k) : ofLe (le k n) = n := by
  induction k generalizing n with
  | zero => simp [le, ofLe] at *; omega
  | succ k ih =>
    rw [Nat.pow_succ] at h
    simp only [le, ofLe]
    rw [ih (n / 256) (by omega)]
    simp; omega
theorem le_ofLe (b : Blk) : le b.length (ofLe b) = b := by
  induction b with
  | nil => rfl
  | cons x b ih =>
    have := x.toNat_lt
    simp only [ofLe, List.length_cons, le]
    have h1 : (x.toNat + 256 * ofLe b) / 256 = ofLe b := by omega
    rw [h1, ih]
    congr 1
    apply UInt8.toNat_inj.1
    simp
theorem ofLe_inj {a b : Blk} (h : a.length = b.length) (e : ofLe a = ofLe b) : a = b := by
  rw [← le_ofLe a, ← le_ofLe b, h, e]
theorem ofLe_append (a b : Blk) : ofLe (a ++ b) = ofLe a + 256 ^ a.length * ofLe b := by
  induction a with
  | nil => simp [ofLe]
  | cons x a ih => simp only [List.cons_append, ofLe, ih, List.length_cons, Nat.pow_succ]; rw [Nat.mul_add, Nat.mul_comm (256 ^ a.length) 256, Nat.mul_assoc, Nat.add_assoc]
theorem le_get (k n i : Nat) (h : i < k) : (le k n)[i]? = some (UInt8.ofNat (n / 256 ^ i)) := by
  induction k generalizing n i with
  | zero => omega
  | succ k ih =>
    cases i with
    | zero => simp [le]
    | succ i =>
      simp only [le, List.getElem?_cons_succ]
      rw [ih _ _ (by omega), Nat.pow_succ, Nat.div_div_eq_div_mul, Nat.mul_comm 256]
theorem le_snoc (k n : Nat) : le (k + 1) n = le k n ++ [UInt8.ofNat (n / 256 ^ k)] := by
  induction k generalizing n with
  | zero => simp [le]
  | succ k ih =>
    rw [show le (k + 1 + 1) n = UInt8.ofNat n :: le (k + 1) (n / 256) from rfl, ih]
    simp only [le, List.cons_append]
    rw [Nat.pow_succ, Nat.div_div_eq_div_mul, Nat.mul_comm 256]

/-! ### Rests -/
def poly : Nat := 0x82f63b78
def bit1 (r : Nat) : Nat := (r >>> 1) ^^^ (if r.testBit 0 then poly else 0)
def bits : Nat → Nat → Nat
  | 0, r => r
  | k + 1, r => bits k (bit1 r)
def intoM (r : Nat) (c : UInt8) : Nat := bits 8 (r ^^^ c.toNat)
def restM (r : Nat) (b : Blk) : Nat := b.foldl intoM r
def crcM (b : Blk) : Nat := restM 4294967295 b ^^^ 4294967295
theorem xor4 (a b c d : Nat) : (a ^^^ b) ^^^ (c ^^^ d) = (a ^^^ c) ^^^ (b ^^^ d) := by
  rw [Nat.xor_assoc, ← Nat.xor_assoc b, Nat.xor_comm b c, Nat.xor_assoc c, ← Nat.xor_assoc]
theorem bit1_xor (x y : Nat) : bit1 (x ^^^ y) = bit1 x ^^^ bit1 y := by
  unfold bit1
  rw [Nat.shiftRight_xor_distrib, Nat.testBit_xor, xor4]
  congr 1
  cases x.testBit 0 <;> cases y.testBit 0 <;> simp
theorem bits_xor (k x y : Nat) : bits k (x ^^^ y) = bits k x ^^^ bits k y := by
  induction k generalizing x y with
  | zero => rfl
  | succ k ih => simp only [bits]; rw [bit1_xor, ih]
theorem bits_add (j k r : Nat) : bits (j + k) r = bits k (bits j r) := by
  induction j generalizing r with
  | zero => simp [bits]
  | succ j ih => rw [Nat.succ_add]; simp only [bits]; exact ih _
theorem bit1_lt {r : Nat} (h : r < 2 ^ 32) : bit1 r < 2 ^ 32 := by
  unfold bit1
  refine Nat.xor_lt_two_pow ?_ ?_
  · rw [Nat.shiftRight_eq_div_pow]; omega
  · split <;> decide
theorem bits_lt (k : Nat) {r : Nat} (h : r < 2 ^ 32) : bits k r < 2 ^ 32 := by
  induction k generalizing r with
  | zero => exact h
  | succ k ih => exact ih (bit1_lt h)
theorem xor_zero {a b : Nat} (e : a ^^^ b = 0) : a = b := by
  have := congrArg (· ^^^ b) e
  simpa [Nat.xor_assoc] using this
theorem bit1_zero {r : Nat} (h : r < 2 ^ 32) (e : bit1 r = 0) : r = 0 := by
  unfold bit1 at e
  have e' := xor_zero e
  rw [Nat.shiftRight_eq_div_pow, Nat.testBit_zero] at e'
  simp only [poly, decide_eq_true_eq] at e'
  split at e' <;> omega
theorem bits_zero (k : Nat) {r : Nat} (h : r < 2 ^ 32) (e : bits k r = 0) : r = 0 := by
  induction k generalizing r with
  | zero => exact e
  | succ k ih => exact bit1_zero h (ih (bit1_lt h) e)
theorem bits_inj (k : Nat) {a b : Nat} (ha : a < 2 ^ 32) (hb : b < 2 ^ 32) (e : bits k a = bits k b) : a = b := by
  have := bits_zero k (r := a ^^^ b) (Nat.xor_lt_two_pow ha hb) (by rw [bits_xor, e, Nat.xor_self])
  exact xor_zero this
theorem bit1_dbl (h : Nat) : bit1 (h <<< 1) = h := by
  unfold bit1
  simp [Nat.shiftLeft_eq, Nat.shiftRight_eq_div_pow, Nat.testBit_zero]
theorem bits_shl (k h : Nat) : bits k (h <<< k) = h := by
  induction k generalizing h with
  | zero => rfl
  | succ k ih => rw [show h <<< (k + 1) = (h <<< k) <<< 1 from by rw [← Nat.shiftLeft_add]]; simp only [bits]; rw [bit1_dbl, ih]
theorem nib_split (r : Nat) : r = ((r >>> 4) <<< 4) ^^^ (r &&& 15) := by
  apply Nat.eq_of_testBit_eq
  intro i
  rw [Nat.testBit_xor, Nat.testBit_shiftLeft, Nat.testBit_and, show (15 : Nat) = 2 ^ 4 - 1 from rfl, Nat.testBit_two_pow_sub_one, Nat.testBit_shiftRight]
  by_cases h : i < 4
  · simp [h]; have : ¬ 4 ≤ i := by omega
    simp [this]
  · simp [h]; rw [show 4 + (i - 4) = i by omega]; have h4 : 4 ≤ i := by omega
    simp [h4]
def four (j : Nat) : Nat := bits 4 j
theorem bits4 (r : Nat) : bits 4 r = (r >>> 4) ^^^ four (r &&& 15) := by
  conv => lhs; rw [nib_split r]
  rw [bits_xor, bits_shl]; rfl
/-- Half a byte goes into a rest. -/
def nibM (r h : Nat) : Nat := (r >>> 4) ^^^ four ((r &&& 15) ^^^ h)
theorem nib_bits {r h : Nat} (hh : h < 16) : bits 4 (r ^^^ h) = nibM r h := by
  have h0 : h >>> 4 = 0 := by rw [Nat.shiftRight_eq_div_pow]; omega
  have h1 : h &&& 15 = h := by rw [show (15 : Nat) = 2 ^ 4 - 1 from rfl, Nat.and_two_pow_sub_one_eq_mod]; omega
  rw [bits4, nibM, Nat.shiftRight_xor_distrib, h0, Nat.xor_zero, Nat.and_xor_distrib_right, h1]
theorem into_nib (r : Nat) (c : UInt8) : intoM r c = nibM (nibM r (c.toNat &&& 15)) (c.toNat >>> 4) := by
  have hc := c.toNat_lt
  have h1 : c.toNat &&& 15 < 16 := by rw [show (15 : Nat) = 2 ^ 4 - 1 from rfl, Nat.and_two_pow_sub_one_eq_mod]; omega
  have h2 : c.toNat >>> 4 < 16 := by rw [Nat.shiftRight_eq_div_pow]; omega
  rw [intoM, show (8 : Nat) = 4 + 4 from rfl, bits_add, ← nib_bits h2, ← nib_bits h1]
  congr 1
  conv => lhs; rw [nib_split c.toNat]
  rw [Nat.xor_comm (_ <<< 4), ← Nat.xor_assoc, bits_xor, bits_shl]
theorem nib_lt {r h : Nat} (hr : r < 2 ^ 32) (hh : h < 16) : nibM r h < 2 ^ 32 := by
  rw [← nib_bits hh]; exact bits_lt 4 (Nat.xor_lt_two_pow hr (by omega))
theorem into_lt {r : Nat} (hr : r < 2 ^ 32) (c : UInt8) : intoM r c < 2 ^ 32 := by
  have := c.toNat_lt
  exact bits_lt 8 (Nat.xor_lt_two_pow hr (by omega))
theorem rest_lt {r : Nat} (hr : r < 2 ^ 32) (b : Blk) : restM r b < 2 ^ 32 := by
  induction b generalizing r with
  | nil => exact hr
  | cons c b ih => exact ih (into_lt hr c)
theorem crc_lt (b : Blk) : crcM b < 2 ^ 32 := Nat.xor_lt_two_pow (rest_lt (by decide) b) (by decide)
theorem into_inj {r s : Nat} (hr : r < 2 ^ 32) (hs : s < 2 ^ 32) {c d : UInt8} (e : intoM r c = intoM s d) : r ^^^ c.toNat = s ^^^ d.toNat := by
  have := c.toNat_lt
  have := d.toNat_lt
  exact bits_inj 8 (Nat.xor_lt_two_pow hr (by omega)) (Nat.xor_lt_two_pow hs (by omega)) e
theorem xor_rc {a b c : Nat} (e : a ^^^ c = b ^^^ c) : a = b := by
  have := congrArg (· ^^^ c) e
  simpa [Nat.xor_assoc] using this
theorem xor_lc {a b c : Nat} (e : c ^^^ a = c ^^^ b) : a = b := xor_rc (c := c) (by rw [Nat.xor_comm a, Nat.xor_comm b]; exact e)
theorem rest_inj {r s : Nat} (hr : r < 2 ^ 32) (hs : s < 2 ^ 32) (b : Blk) (e : restM r b = restM s b) : r = s := by
  induction b generalizing r s with
  | nil => exact e
  | cons c b ih => exact xor_rc (into_inj hr hs (ih (into_lt hr c) (into_lt hs c) e))
theorem rest_append (r : Nat) (a b : Blk) : restM r (a ++ b) = restM (restM r a) b := List.foldl_append
/-- A byte that is another one is seen. -/
theorem crc_one (a b : Blk) (c d : UInt8) (e : crcM (a ++ c :: b) = crcM (a ++ d :: b)) : c = d := by
  unfold crcM at e
  have h := xor_rc e
  rw [rest_append, rest_append] at h
  have hr : restM 4294967295 a < 2 ^ 32 := rest_lt (by decide) a
  have h1 := rest_inj (into_lt hr c) (into_lt hr d) b h
  exact UInt8.toNat_inj.1 (xor_lc (into_inj hr hr h1))
end Go.Cx
namespace Go.Cx
/-! ### Blocks that were written as a whole -/
def top : Nat := 18446744073709551615
def padB (k : Nat) (b : Blk) : Blk := b ++ List.replicate (k - b.length) 0
def frontB (n : Nat) (body : Blk) : Blk := le 8 n ++ padB 108 body
def sealB (n : Nat) (body : Blk) : Blk := frontB n body ++ (le 4 (crcM (frontB n body)) ++ le 8 (top - n))
/-- It is one. -/
structure Valid (b : Blk) : Prop where
  num : 1 ≤ ofLe (b.take 8)
  fin : ofLe (b.drop 120) = top - ofLe (b.take 8)
  sum : ofLe ((b.drop 116).take 4) = crcM (b.take 116)
def putM (n : Nat) (body : Blk) : Blk × Int := if n = 0 then (zblk, 2) else if 108 < body.length then (zblk, 3) else (sealB n body, 0)
def getM (b : Blk) : Nat × Blk × Int :=
  if ofLe (b.take 8) < 1 ∨ ofLe (b.drop 120) ≠ top - ofLe (b.take 8) then (0, [], 5)
  else if ofLe ((b.drop 116).take 4) ≠ crcM (b.take 116) then (0, [], 6) else (ofLe (b.take 8), (b.drop 8).take 108, 0)
theorem get_ok {b : Blk} (h : Valid b) : getM b = (ofLe (b.take 8), (b.drop 8).take 108, 0) := by
  unfold getM
  rw [if_neg (by have := h.num; have := h.fin; omega), if_neg (by simp [h.sum])]
theorem get_valid {b : Blk} (h : (getM b).2.2 = 0) : Valid b := by
  unfold getM at h
  split at h
  · simp at h
  · split at h
    · simp at h
    · exact ⟨by omega, by omega, by omega⟩
theorem get_bad {b : Blk} (h : ¬ Valid b) : (getM b).1 = 0 ∧ (getM b).2.1 = [] ∧ (getM b).2.2 ≠ 0 := by
  unfold getM
  split
  · exact ⟨rfl, rfl, by decide⟩
  · split
    · exact ⟨rfl, rfl, by decide⟩
    · exact absurd ⟨by omega, by omega, by omega⟩ h
theorem padB_len {k : Nat} {b : Blk} (h : b.length ≤ k) : (padB k b).length = k := by simp [padB]; omega
theorem front_len {n : Nat} {b : Blk} (h : b.length ≤ 108) : (frontB n b).length = 116 := by simp [frontB, padB_len h]
theorem sealB_WB {n : Nat} {b : Blk} (h : b.length ≤ 108) : WB (sealB n b) := by simp [WB, sealB, front_len h]
theorem sealB_8 (n : Nat) (b : Blk) : (sealB n b).take 8 = le 8 n := by simp [sealB, frontB]
theorem sealB_116 {n : Nat} {b : Blk} (h : b.length ≤ 108) : (sealB n b).take 116 = frontB n b := by
  rw [sealB, List.take_append_of_le_length (by rw [front_len h]; omega), List.take_of_length_le (by rw [front_len h]; omega)]
theorem sealB_d116 {n : Nat} {b : Blk} (h : b.length ≤ 108) : (sealB n b).drop 116 = le 4 (crcM (frontB n b)) ++ le 8 (top - n) := by
  rw [sealB, List.drop_append, List.drop_of_length_le (by rw [front_len h]; omega), front_len h]; simp
theorem sealB_120 {n : Nat} {b : Blk} (h : b.length ≤ 108) : (sealB n b).drop 120 = le 8 (top - n) := by
  rw [show 120 = 116 + 4 from rfl, ← List.drop_drop, sealB_d116 h, List.drop_append]; simp
theorem sealB_body {n : Nat} {b : Blk} (h : b.length ≤ 108) : ((sealB n b).drop 8).take 108 = padB 108 b := by
  have h1 : ((sealB n b).take 116).drop 8 = ((sealB n b).drop 8).take 108 := by rw [List.drop_take]
  rw [← h1, sealB_116 h, frontB, List.drop_append]; simp
theorem ofLe8 {n : Nat} (h : n ≤ top) : ofLe (le 8 n) = n := ofLe_le 8 n (by simp only [top] at h; omega)
theorem valid_sealB {n : Nat} {b : Blk} (h1 : 1 ≤ n) (h2 : n ≤ top) (h : b.length ≤ 108) : Valid (sealB n b) := by
  refine ⟨?_, ?_, ?_⟩
  · rw [sealB_8, ofLe8 h2]; exact h1
  · rw [sealB_8, sealB_120 h, ofLe8 h2, ofLe8 (by omega)]
  · rw [sealB_d116 h, sealB_116 h, List.take_append_of_le_length (by simp), List.take_of_length_le (by simp)]
    exact ofLe_le 4 _ (crc_lt _)
theorem get_sealB {n : Nat} {b : Blk} (h1 : 1 ≤ n) (h2 : n ≤ top) (h : b.length ≤ 108) : getM (sealB n b) = (n, padB 108 b, 0) := by
  rw [get_ok (valid_sealB h1 h2 h), sealB_8, sealB_body h, ofLe8 h2]
/-- Whoever fits is sealed. -/
theorem valid_eq {b : Blk} (w : WB b) (v : Valid b) : b = sealB (ofLe (b.take 8)) ((b.drop 8).take 108) := by
  have w' : b.length = 128 := w
  have e1 : le 8 (ofLe (b.take 8)) = b.take 8 := by have := le_ofLe (b.take 8); rwa [show (b.take 8).length = 8 by simp; omega] at this
  have e2 : padB 108 ((b.drop 8).take 108) = (b.drop 8).take 108 := by simp [padB, w']
  have e3 : frontB (ofLe (b.take 8)) ((b.drop 8).take 108) = b.take 116 := by
    rw [frontB, e1, e2, show 116 = 8 + 108 from rfl, List.take_add]
  have e4 : le 4 (crcM (b.take 116)) = (b.drop 116).take 4 := by
    rw [← v.sum]; have := le_ofLe ((b.drop 116).take 4); rwa [show ((b.drop 116).take 4).length = 4 by simp; omega] at this
  have e5 : le 8 (top - ofLe (b.take 8)) = b.drop 120 := by
    rw [← v.fin]; have := le_ofLe (b.drop 120); rwa [show (b.drop 120).length = 8 by simp; omega] at this
  rw [sealB, e3, e4, e5, show 120 = 116 + 4 from rfl, ← List.drop_drop, List.take_append_drop, List.take_append_drop]
theorem valid_top {b : Blk} (w : WB b) : ofLe (b.take 8) ≤ top := by
  have h := ofLe_lt (b.take 8)
  have w' : b.length = 128 := w
  rw [show (b.take 8).length = 8 by simp; omega] at h
  simp only [top]; omega
/-- With a byte changed it is none any more. -/
theorem valid_set {b : Blk} (w : WB b) (v : Valid b) (p : Nat) (hp : p < 128) (y : UInt8) (v' : Valid (b.set p y)) : b.set p y = b := by
  have w' : b.length = 128 := w
  have t1 := valid_top w
  have t2 := valid_top (b := b.set p y) (by simp [WB, w'])
  have key : ∀ (k m : Nat), k ≤ p → p < k + m → ((b.set p y).drop k).take m = (b.drop k).take m → b.set p y = b := fun k m h1 h2 e => by
    have := congrArg (fun l : List UInt8 => l[p - k]?) e
    simp only [List.getElem?_take, List.getElem?_drop, show k + (p - k) = p by omega, if_pos (show p - k < m by omega)] at this
    rw [List.getElem?_set_self (by omega), List.getElem?_eq_getElem (by omega)] at this
    have hy : y = b[p] := by simpa using this
    rw [hy]; simp
  by_cases h8 : p < 8
  · have e : (b.set p y).drop 120 = b.drop 120 := by rw [List.drop_set, if_pos (by omega)]
    have h1 := v.fin
    have h2 := v'.fin
    rw [e] at h2
    have e2 : (b.set p y).take 8 = b.take 8 := ofLe_inj (by simp) (by simp only [top] at *; omega)
    exact key 0 8 (Nat.zero_le _) (by omega) (by simpa using e2)
  have e8 : (b.set p y).take 8 = b.take 8 := by rw [List.take_set, List.set_eq_of_length_le (by simp; omega)]
  by_cases h116 : p < 116
  · have e : ((b.set p y).drop 116).take 4 = (b.drop 116).take 4 := by rw [List.drop_set, if_pos (by omega)]
    have h1 := v.sum
    have h2 := v'.sum
    rw [e, h1, List.take_set] at h2
    have hl : p < (b.take 116).length := by simp; omega
    have hg : (b.take 116)[p] = b[p] := by simp
    generalize b.take 116 = u at h2 hl hg
    have e3 : u.set p y = u.take p ++ y :: u.drop (p + 1) := by rw [List.set_eq_take_append_cons_drop, if_pos hl]
    have e4 : u = u.take p ++ u[p] :: u.drop (p + 1) := by simp
    rw [e3] at h2
    have h3 := crc_one (u.take p) (u.drop (p + 1)) u[p] y (by rw [← e4]; exact h2)
    have hy : y = b[p] := by rw [← h3, hg]
    rw [hy]; simp
  by_cases h120 : p < 120
  · have e : (b.set p y).take 116 = b.take 116 := by rw [List.take_set, List.set_eq_of_length_le (by simp; omega)]
    have h1 := v.sum
    have h2 := v'.sum
    rw [e, ← h1] at h2
    exact key 116 4 (by omega) (by omega) (ofLe_inj (by simp) h2)
  · have h1 := v.fin
    have h2 := v'.fin
    rw [e8, ← h1] at h2
    have e2 : (b.set p y).drop 120 = b.drop 120 := ofLe_inj (by simp) h2
    exact key 120 8 (by omega) (by omega) (by rw [e2])

/-! ### Blocks of which only a beginning was written -/
def swB (w : Nat × Blk) : Blk := sealB w.1 w.2
/-- What may stand at a place: of the blocks ws, over 0s, the later ones further ahead. -/
structure Begun (lo : Nat) (ws : List (Nat × Blk)) (b : Blk) : Prop where
  wb : WB b
  base : lo ≤ 1152921504606846976
  num : ∀ w ∈ ws, lo < w.1 ∧ w.1 ≤ lo + 60 ∧ w.2.length ≤ 108
  incr : ws.Pairwise fun u v => u.1 < v.1
  src : ∃ s : Nat → Nat, (∀ p q, p ≤ q → s q ≤ s p) ∧ (∀ p, s p ≤ ws.length) ∧ ∀ p, p < 128 → b[p]? = ((zblk :: ws.map swB).getD (s p) [])[p]?
theorem begun_nil {lo : Nat} (h : lo ≤ 1152921504606846976) : Begun lo [] zblk :=
  ⟨WB_z, h, by simp, .nil, fun _ => 0, by simp, by simp, by simp⟩
theorem torn_len {a b : Blk} {n : Nat} (ha : WB a) (hb : WB b) : WB (torn a b n) := by unfold WB torn at *; simp; omega
theorem begun_torn {lo : Nat} {ws : List (Nat × Blk)} {b : Blk} (h : Begun lo ws b) (w : Nat × Blk) (hw : lo < w.1 ∧ w.1 ≤ lo + 60 ∧ w.2.length ≤ 108) (hi : ∀ u ∈ ws, u.1 < w.1) (n : Nat) : Begun lo (ws ++ [w]) (torn b (swB w) n) := by
  obtain ⟨s, h1, h2, h3⟩ := h.src
  have hb : b.length = 128 := h.wb
  have hs : (swB w).length = 128 := sealB_WB hw.2.2
  refine ⟨torn_len h.wb hs, h.base, fun u hu => ?_, ?_, fun p => if p < n then ws.length + 1 else s p, fun p q hpq => ?_, fun p => ?_, fun p hp => ?_⟩
  · simp only [List.mem_append, List.mem_singleton] at hu
    rcases hu with hu | rfl
    · exact h.num u hu
    · exact hw
  · rw [List.pairwise_append]
    exact ⟨h.incr, by simp, fun u hu v hv => by simp only [List.mem_singleton] at hv; subst hv; exact hi u hu⟩
  · have := h1 p q hpq
    have := h2 p
    have := h2 q
    dsimp only
    split <;> split <;> omega
  · have := h2 p
    simp only [List.length_append, List.length_singleton]
    split <;> omega
  · dsimp only
    unfold torn
    by_cases hn : p < n
    · rw [if_pos hn, List.getElem?_append_left (by simp; omega), List.getElem?_take, if_pos hn]
      simp [List.getD_eq_getElem?_getD]
    · rw [if_neg hn, List.getElem?_append_right (by simp; omega), List.getElem?_drop]
      have e : n + (p - (List.take n (swB w)).length) = p := by simp; omega
      rw [e, h3 p hp]
      have := h2 p
      simp only [List.getD_eq_getElem?_getD, List.map_append, List.map_cons, List.map_nil, ← List.cons_append]
      rw [List.getElem?_append_left (by simp; omega)]
theorem swB_0 (w : Nat × Blk) : (swB w)[0]? = some (UInt8.ofNat w.1) := by
  have : ((swB w).take 8)[0]? = some (UInt8.ofNat w.1) := by rw [swB, sealB_8]; rfl
  rw [List.getElem?_take] at this; simpa using this
theorem swB_7 (w : Nat × Blk) : (swB w)[7]? = some (UInt8.ofNat (w.1 / 256 ^ 7)) := by
  have : ((swB w).take 8)[7]? = some (UInt8.ofNat (w.1 / 256 ^ 7)) := by rw [swB, sealB_8, le_get _ _ _ (by omega)]
  rw [List.getElem?_take] at this; simpa using this
theorem swB_120 {w : Nat × Blk} (h : w.2.length ≤ 108) : (swB w)[120]? = some (UInt8.ofNat (top - w.1)) := by
  have : ((swB w).drop 120)[0]? = some (UInt8.ofNat (top - w.1)) := by rw [swB, sealB_120 h]; rfl
  rw [List.getElem?_drop] at this; exact this
theorem begun_valid {lo : Nat} {ws : List (Nat × Blk)} {b : Blk} (h : Begun lo ws b) (v : Valid b) : b ∈ ws.map swB := by
  obtain ⟨s, h1, h2, h3⟩ := h.src
  have hb : b.length = 128 := h.wb
  have hlo := h.base
  have e8 : le 8 (ofLe (b.take 8)) = b.take 8 := by have := le_ofLe (b.take 8); rwa [show (b.take 8).length = 8 by simp; omega] at this
  have e120 : le 8 (top - ofLe (b.take 8)) = b.drop 120 := by
    rw [← v.fin]; have := le_ofLe (b.drop 120); rwa [show (b.drop 120).length = 8 by simp; omega] at this
  have ht := valid_top h.wb
  generalize hn : ofLe (b.take 8) = n at e8 e120 ht
  have b0 : b[0]? = some (UInt8.ofNat n) := by
    have : (b.take 8)[0]? = some (UInt8.ofNat n) := by rw [← e8]; rfl
    rw [List.getElem?_take] at this; simpa using this
  have b7 : b[7]? = some (UInt8.ofNat (n / 256 ^ 7)) := by
    have : (b.take 8)[7]? = some (UInt8.ofNat (n / 256 ^ 7)) := by rw [← e8, le_get _ _ _ (by omega)]
    rw [List.getElem?_take] at this; simpa using this
  have b120 : b[120]? = some (UInt8.ofNat (top - n)) := by
    have : (b.drop 120)[0]? = some (UInt8.ofNat (top - n)) := by rw [← e120]; rfl
    rw [List.getElem?_drop] at this; exact this
  have b127 : b[127]? = some (UInt8.ofNat ((top - n) / 256 ^ 7)) := by
    have : (b.drop 120)[7]? = some (UInt8.ofNat ((top - n) / 256 ^ 7)) := by rw [← e120, le_get _ _ _ (by omega)]
    rw [List.getElem?_drop] at this; exact this
  have at_ : ∀ p, p < 128 → s p ≠ 0 → ∃ (hk : s p - 1 < ws.length), b[p]? = (swB ws[s p - 1])[p]? := fun p hp h0 => by
    have := h2 p
    refine ⟨by omega, ?_⟩
    rw [h3 p hp]
    obtain ⟨m, hm⟩ : ∃ m, s p = m + 1 := ⟨s p - 1, by omega⟩
    simp only [hm, List.getD_eq_getElem?_getD, List.getElem?_cons_succ, Nat.add_sub_cancel]
    have hml : m < ws.length := by omega
    simp [hml]
  have zero : ∀ p, p < 128 → s p = 0 → b[p]? = some 0 := fun p hp h0 => by
    rw [h3 p hp, h0, List.getD_cons_zero, zblk, List.getElem?_replicate, if_pos hp]
  have u8 : ∀ {x y : Nat}, some (UInt8.ofNat x) = some (UInt8.ofNat y) → x % 256 = y % 256 := fun {x y} e => by
    have := congrArg UInt8.toNat (Option.some.inj e)
    simpa using this
  have z8 : ∀ {x : Nat}, some (UInt8.ofNat x) = some 0 → x % 256 = 0 := fun {x} e => by
    have := congrArg UInt8.toNat (Option.some.inj e)
    simpa using this
  have n127 : s 127 ≠ 0 := fun h0 => by
    have q := zero 127 (by omega) h0
    rw [b127] at q
    have q1 := z8 q
    by_cases h7 : s 7 = 0
    · have q2 := zero 7 (by omega) h7
      rw [b7] at q2
      have q3 := z8 q2
      simp only [top] at *; omega
    · obtain ⟨hk, q2⟩ := at_ 7 (by omega) h7
      rw [b7, swB_7] at q2
      have q3 := u8 q2
      have := (h.num _ (List.getElem_mem hk)).2.1
      simp only [top] at *; omega
  have m1 := h1 120 127 (by omega)
  have m2 := h1 0 120 (by omega)
  obtain ⟨hK, qK⟩ := at_ 120 (by omega) (by omega)
  obtain ⟨hJ, qJ⟩ := at_ 0 (by omega) (by omega)
  have nK := h.num _ (List.getElem_mem hK)
  have nJ := h.num _ (List.getElem_mem hJ)
  rw [b120, swB_120 nK.2.2] at qK
  rw [b0, swB_0] at qJ
  have k1 := u8 qK
  have k2 := u8 qJ
  have eN : ws[s 0 - 1].1 = ws[s 120 - 1].1 := by simp only [top] at *; omega
  have eJ : s 0 = s 120 := by
    rcases Nat.lt_or_ge (s 120) (s 0) with hlt | hge
    · have := (List.pairwise_iff_getElem.1 h.incr) (s 120 - 1) (s 0 - 1) hK hJ (by omega)
      omega
    · omega
  have e120' : b.take 120 = (swB ws[s 0 - 1]).take 120 := by
    apply List.ext_getElem?
    intro p
    rw [List.getElem?_take, List.getElem?_take]
    split
    · rename_i hp
      have a1 := h1 0 p (by omega)
      have a2 := h1 p 120 (by omega)
      obtain ⟨_, q⟩ := at_ p (by omega) (by omega)
      rw [q]
      have : s p = s 0 := by omega
      simp only [this]
    · rfl
  have hnn : n = ws[s 0 - 1].1 := by
    have : (b.take 120).take 8 = ((swB ws[s 0 - 1]).take 120).take 8 := by rw [e120']
    rw [List.take_take, List.take_take] at this
    have q : b.take 8 = le 8 ws[s 0 - 1].1 := by simpa [swB, sealB_8] using this
    rw [← hn, q, ofLe8 (by simp only [top]; omega)]
  have hd : b.drop 120 = (swB ws[s 0 - 1]).drop 120 := by rw [← e120, hnn, swB, sealB_120 nJ.2.2]
  have : b = swB ws[s 0 - 1] := by rw [← List.take_append_drop 120 b, e120', hd, List.take_append_drop]
  rw [this]
  exact List.mem_map.2 ⟨_, List.getElem_mem hJ, rfl⟩
theorem valid_of_mem {lo : Nat} {ws : List (Nat × Blk)} {b : Blk} (h : Begun lo ws b) {c : Blk} (hc : c ∈ ws.map swB) : Valid c := by
  obtain ⟨w, hw, rfl⟩ := List.mem_map.1 hc
  have := h.num w hw
  have := h.base
  exact valid_sealB (by omega) (by simp only [top]; omega) (h.num w hw).2.2
end Go.Cx
/-! Stepping: strings of bytes, shifts, words of bits. No program in sight. -/
namespace Go.Cx
theorem not64 {n : Nat} (h : n ≤ 18446744073709551615) : 18446744073709551615 ^^^ n = 18446744073709551615 - n := by
  have h1 : (BitVec.ofNat 64 n ^^^ BitVec.allOnes 64).toNat = 18446744073709551615 ^^^ n := by
    rw [BitVec.toNat_xor, BitVec.toNat_ofNat, BitVec.toNat_allOnes, Nat.xor_comm, Nat.mod_eq_of_lt (by omega)]
  rw [← h1, BitVec.xor_allOnes, BitVec.toNat_not, BitVec.toNat_ofNat, Nat.mod_eq_of_lt (by omega)]
theorem fdiv_nat (a b : Nat) : Int.fdiv (a : Int) (b : Int) = ((a / b : Nat) : Int) := by
  rw [Int.fdiv_eq_ediv_of_nonneg _ (Int.natCast_nonneg b)]; exact Int.natCast_ediv a b
theorem or_low {a b k : Nat} (h : b < 2 ^ k) : (a * 2 ^ k) ||| b = a * 2 ^ k + b := by
  rw [← Nat.shiftLeft_eq]; exact (Nat.shiftLeft_add_eq_or_of_lt h a).symm
theorem wrap_mod {k : IntKind} (h : uns k = true) (a : Nat) : k.wrap (a : Int) = ((a % 2 ^ k.bits : Nat) : Int) := by
  cases k <;> simp only [uns] at h <;> first | exact absurd h (by decide) | (simp only [IntKind.wrap, IntKind.bits, IntKind.signed]; simp)
/-- A string of bytes. -/
def sv (b : Blk) : Value := .string ⟨b.toArray⟩
theorem strOf_ib (b : Blk) : strOfNums (ib b) = ⟨b.toArray⟩ := by
  unfold strOfNums ib
  congr 2
  rw [List.map_map]
  conv => rhs; rw [← List.map_id b]
  apply List.map_congr_left
  intro x _
  simp
section
variable {P : Program} {ops : Array Oper} {n : Nat} {env : Env} {L : List Assn}
variable {dst : Option Tmp} {ty : TypeId} {pos : String} {aft : Array Edge} {g : Option (Nat × Bool)}
theorem PS.toStr {s t e sz : Nat} [E : ElemA P s e sz] [I : IntT P e .u8] [S : StrT P t] {x : Operand} {a : Option Addr} {len cap : Nat} {b : Blk} (hg : gd ops n env g = some true) (hx : ev n env x = some (.slice a len cap)) (hl : len = b.length)
    (hr : ∀ h, Sep L h → rdx a len (cb b) h) : PS P ops n env L ⟨dst, .convert s t x, ty, pos, aft, g⟩ (sv b) :=
  ⟨hg, fun ac w hf hs => by
    subst hl
    have key : (convert s t (.slice a b.length cap)).run P w = .ok (sv b) w := by
      cases a with
      | none =>
        have h0 : b.length = 0 := by
          rcases hr _ hs with h | ⟨_, _, _, _, _, h, _⟩
          · exact h
          · cases h
        obtain rfl : b = [] := List.eq_nil_of_length_eq_zero h0
        rw [run_convert_bytes_nil w s e E.under I.under _ _ t S.under]; rfl
      | some ad =>
        rcases hr _ hs with h0 | ⟨q, off, cs, bt, fr, ea, hq, hc⟩
        · obtain rfl : b = [] := List.eq_nil_of_length_eq_zero h0
          rw [run_convert_bytes_string w s t e _ _ cap E.under I.under S.under, show ([] : Blk).length = 0 from rfl, run_bytesToString w ad 0 cap [] (by simp [loadCells, loadCellsFrom])]
          rfl
        · obtain rfl := Option.some.inj ea
          have := run_convert_bytes_arg (P := P) w s e E.under I.under q off b.length cap (ib b) (length_ib b) (fun i hi => by
            refine cell_ph hq (hc i _ ?_)
            have hi' : i < (ib b).length := by rw [length_ib]; exact hi
            simp [cb, ib, hi]) t S.under
          rw [this, strOf_ib]; rfl
    simp [execOp, hf.eval hx, key]⟩
theorem run_strEq {t : TypeId} (a b : Blk) (w : World) : (Go.binOp .eql t (sv a) (sv b)).run P w = .ok (.bool (decide (a = b))) w := by
  have : ((ByteArray.mk a.toArray).toList == (ByteArray.mk b.toArray).toList) = decide (a = b) := by rw [ByteArray.toList_eq, ByteArray.toList_eq, Bool.eq_iff_iff]; simp
  simp only [Go.binOp, sv, Op.stringOp, this]; simp
theorem run_strNe {t : TypeId} (a b : Blk) (w : World) : (Go.binOp .neq t (sv a) (sv b)).run P w = .ok (.bool (decide (a ≠ b))) w := by
  have : ((ByteArray.mk a.toArray).toList == (ByteArray.mk b.toArray).toList) = decide (a = b) := by rw [ByteArray.toList_eq, ByteArray.toList_eq, Bool.eq_iff_iff]; simp
  simp only [Go.binOp, sv, Op.stringOp, this]; simp
theorem PS.eqlStr {t u : TypeId} {x y : Operand} {a b : Blk} (hg : gd ops n env g = some true) (hx : ev n env x = some (sv a)) (hy : ev n env y = some (sv b)) :
    PS P ops n env L ⟨dst, .binOp .eql t x y u, ty, pos, aft, g⟩ (.bool (decide (a = b))) :=
  ⟨hg, fun ac w hf _ => by
    have h1 := hf.eval hx
    have h2 := hf.eval hy
    simp [execOp, h1, h2, run_strEq]; simp [eqGuard, sv]⟩
theorem PS.neqStr {t u : TypeId} {x y : Operand} {a b : Blk} (hg : gd ops n env g = some true) (hx : ev n env x = some (sv a)) (hy : ev n env y = some (sv b)) :
    PS P ops n env L ⟨dst, .binOp .neq t x y u, ty, pos, aft, g⟩ (.bool (decide (a ≠ b))) :=
  ⟨hg, fun ac w hf _ => by
    have h1 := hf.eval hx
    have h2 := hf.eval hy
    simp [execOp, h1, h2, run_strNe]; simp [eqGuard, sv]⟩
theorem run_eqBool {t : TypeId} (hu : P.underlying t = some .bool) (a b : Bool) (w : World) : (Go.binOp .eql t (.bool a) (.bool b)).run P w = .ok (.bool (a == b)) w := by
  have h : ∀ k : Nat, (Op.equalIn (k + 1) t (.bool a) (.bool b)).run P w = .ok (a == b) w := fun k => by simp [Op.equalIn, run_underlying hu]
  simp only [Go.binOp]
  simp [Op.equal, Op.maxDepth, h 9999]
theorem PS.eqlBool {t u : TypeId} {x y : Operand} {a b : Bool} (c : Bool) (hc : (a == b) = c) (hu : P.underlying t = some .bool) (hg : gd ops n env g = some true) (hx : ev n env x = some (.bool a)) (hy : ev n env y = some (.bool b)) :
    PS P ops n env L ⟨dst, .binOp .eql t x y u, ty, pos, aft, g⟩ (.bool c) :=
  ⟨hg, fun ac w hf _ => by subst hc; simp [execOp, hf.eval hx, hf.eval hy, eqGuard, run_eqBool hu]⟩
theorem PS.neqBool {t u : TypeId} {x y : Operand} {a b : Bool} (c : Bool) (hc : (a != b) = c) (hu : P.underlying t = some .bool) (hg : gd ops n env g = some true) (hx : ev n env x = some (.bool a)) (hy : ev n env y = some (.bool b)) :
    PS P ops n env L ⟨dst, .binOp .neq t x y u, ty, pos, aft, g⟩ (.bool c) :=
  ⟨hg, fun ac w hf _ => by subst hc; simp [execOp, hf.eval hx, hf.eval hy, eqGuard, run_neBool hu]⟩
/-- Words of bits: a shift by a number that is small. -/
theorem PS.shlN {t u : TypeId} {x y : Operand} {k k' : IntKind} (a s : Nat) (h : uns k = true) (hs : s ≤ k.bits) (hr : a * 2 ^ s < 2 ^ k.bits) (hg : gd ops n env g = some true) (hx : ev n env x = some (.int k (a : Int))) (hy : ev n env y = some (.int k' (s : Int))) :
    PS P ops n env L ⟨dst, .binOp .shl t x y u, ty, pos, aft, g⟩ (.int k ((a * 2 ^ s : Nat) : Int)) :=
  ⟨hg, fun ac w hf _ => by
    have e : k.wrap ((a : Int) * 2 ^ s) = ((a * 2 ^ s : Nat) : Int) := by
      have := wrap_uns h hr
      rw [← this]; simp
    have h0 : ¬ ((s : Int) < 0) := by omega
    have h1 : min s k.bits = s := Nat.min_eq_left hs
    simp [execOp, hf.eval hx, hf.eval hy, eqGuard_int, Go.binOp, Op.shift, h0, h1, e]⟩
theorem PS.shrN {t u : TypeId} {x y : Operand} {k k' : IntKind} (a s : Nat) (hs : s ≤ k.bits) (hg : gd ops n env g = some true) (hx : ev n env x = some (.int k (a : Int))) (hy : ev n env y = some (.int k' (s : Int))) :
    PS P ops n env L ⟨dst, .binOp .shr t x y u, ty, pos, aft, g⟩ (.int k ((a / 2 ^ s : Nat) : Int)) :=
  ⟨hg, fun ac w hf _ => by
    have e : Int.fdiv (a : Int) (2 ^ s) = ((a / 2 ^ s : Nat) : Int) := by rw [← fdiv_nat]; simp
    have h0 : ¬ ((s : Int) < 0) := by omega
    have h1 : min s k.bits = s := Nat.min_eq_left hs
    simp [execOp, hf.eval hx, hf.eval hy, eqGuard_int, Go.binOp, Op.shift, h0, h1, e]⟩
theorem PS.not64 {x : Operand} {t : TypeId} (a : Nat) (h : a ≤ 18446744073709551615) (hg : gd ops n env g = some true) (hx : ev n env x = some (.int .u64 (a : Int))) :
    PS P ops n env L ⟨dst, .unOp .xor t x, ty, pos, aft, g⟩ (.int .u64 ((18446744073709551615 - a : Nat) : Int)) :=
  PS.notInt hg hx fun w => by
    have := run_xor (P := P) (k := .u64) rfl (a := 18446744073709551615) (b := a) (by decide) (by simp only [IntKind.bits]; omega) w
    rw [Cx.not64 h] at this; exact this
theorem run_andK {k : IntKind} {a b : Nat} (ha : a < 2 ^ k.bits) (hb : b < 2 ^ k.bits) (hw : k.wrap ((a &&& b : Nat) : Int) = ((a &&& b : Nat) : Int)) (w : World) : (Op.intBits .and k (a : Int) (b : Int)).run P w = .ok (.int k ((a &&& b : Nat) : Int)) w := by
  simp [Op.intBits, Nat.mod_eq_of_lt ha, Nat.mod_eq_of_lt hb, hw]
theorem run_xorK {k : IntKind} {a b : Nat} (ha : a < 2 ^ k.bits) (hb : b < 2 ^ k.bits) (hw : k.wrap ((a ^^^ b : Nat) : Int) = ((a ^^^ b : Nat) : Int)) (w : World) : (Op.intBits .xor k (a : Int) (b : Int)).run P w = .ok (.int k ((a ^^^ b : Nat) : Int)) w := by
  simp [Op.intBits, Nat.mod_eq_of_lt ha, Nat.mod_eq_of_lt hb, hw]
theorem run_andI {a b : Nat} (ha : a < 9223372036854775808) (hb : b < 9223372036854775808) (w : World) : (Op.intBits .and .i64 (a : Int) (b : Int)).run P w = .ok (.int .i64 ((a &&& b : Nat) : Int)) w := by
  have h1 : a &&& b < 2 ^ 63 := Nat.and_lt_two_pow a (by simpa using hb)
  exact run_andK (k := .i64) (by simp only [IntKind.bits]; omega) (by simp only [IntKind.bits]; omega) (wr_i64 (by omega) (by omega)) w
theorem run_xorI {a b : Nat} (ha : a < 9223372036854775808) (hb : b < 9223372036854775808) (w : World) : (Op.intBits .xor .i64 (a : Int) (b : Int)).run P w = .ok (.int .i64 ((a ^^^ b : Nat) : Int)) w := by
  have h1 : a ^^^ b < 2 ^ 63 := Nat.xor_lt_two_pow (by simpa using ha) (by simpa using hb)
  exact run_xorK (k := .i64) (by simp only [IntKind.bits]; omega) (by simp only [IntKind.bits]; omega) (wr_i64 (by omega) (by omega)) w
theorem PS.andI {t u : TypeId} {x y : Operand} (a b : Nat) (ha : a < 9223372036854775808) (hb : b < 9223372036854775808) (hg : gd ops n env g = some true) (hx : ev n env x = some (.int .i64 (a : Int))) (hy : ev n env y = some (.int .i64 (b : Int))) :
    PS P ops n env L ⟨dst, .binOp .and t x y u, ty, pos, aft, g⟩ (.int .i64 ((a &&& b : Nat) : Int)) :=
  ⟨hg, fun a' w hf _ => by simp [execOp, hf.eval hx, hf.eval hy, eqGuard_int, Go.binOp, run_andI ha hb]⟩
theorem PS.xorI {t u : TypeId} {x y : Operand} (a b : Nat) (ha : a < 9223372036854775808) (hb : b < 9223372036854775808) (hg : gd ops n env g = some true) (hx : ev n env x = some (.int .i64 (a : Int))) (hy : ev n env y = some (.int .i64 (b : Int))) :
    PS P ops n env L ⟨dst, .binOp .xor t x y u, ty, pos, aft, g⟩ (.int .i64 ((a ^^^ b : Nat) : Int)) :=
  ⟨hg, fun a' w hf _ => by simp [execOp, hf.eval hx, hf.eval hy, eqGuard_int, Go.binOp, run_xorI ha hb]⟩
/-- A conversion to words of so many bits. -/
theorem PS.convM {s t : TypeId} {k k' : IntKind} [I : IntT P s k] [J : IntT P t k'] {x : Operand} (a m : Nat) (h : uns k' = true) (hm : m = a % 2 ^ k'.bits) (hg : gd ops n env g = some true) (hx : ev n env x = some (.int k (a : Int))) :
    PS P ops n env L ⟨dst, .convert s t x, ty, pos, aft, g⟩ (.int k' (m : Int)) := PS.convI hg hx (by rw [hm]; exact wrap_mod h a)
theorem PS.quoN {x y : Operand} {t u : TypeId} {k : IntKind} (a b : Nat) (hb : b ≠ 0) (h : uns k = true) (ha : a < 2 ^ k.bits) (hg : gd ops n env g = some true) (hx : ev n env x = some (.int k (a : Int))) (hy : ev n env y = some (.int k (b : Int))) :
    PS P ops n env L ⟨dst, .binOp .quo t x y u, ty, pos, aft, g⟩ (.int k ((a / b : Nat) : Int)) :=
  PS.quo hg hx hy (by omega) (by rw [tdiv_nn (by omega), ← Int.natCast_ediv]; exact wrap_uns h (Nat.lt_of_le_of_lt (Nat.div_le_self _ _) ha))
theorem PS.remN {x y : Operand} {t u : TypeId} {k : IntKind} (a b : Nat) (hb : b ≠ 0) (hg : gd ops n env g = some true) (hx : ev n env x = some (.int k (a : Int))) (hy : ev n env y = some (.int k (b : Int))) :
    PS P ops n env L ⟨dst, .binOp .rem t x y u, ty, pos, aft, g⟩ (.int k ((a % b : Nat) : Int)) :=
  PS.rem hg hx hy (by omega) (by rw [tmod_nn (by omega), ← Int.natCast_emod])
theorem PS.mulM {x y : Operand} {t u : TypeId} {k : IntKind} (a b : Nat) (h : uns k = true) (hg : gd ops n env g = some true) (hx : ev n env x = some (.int k (a : Int))) (hy : ev n env y = some (.int k (b : Int))) :
    PS P ops n env L ⟨dst, .binOp .mul t x y u, ty, pos, aft, g⟩ (.int k ((a * b % 2 ^ k.bits : Nat) : Int)) :=
  PS.mul hg hx hy (by rw [← Int.natCast_mul]; exact wrap_mod h _)
theorem PS.addM {x y : Operand} {t u : TypeId} {k : IntKind} (a b : Nat) (h : uns k = true) (hg : gd ops n env g = some true) (hx : ev n env x = some (.int k (a : Int))) (hy : ev n env y = some (.int k (b : Int))) :
    PS P ops n env L ⟨dst, .binOp .add t x y u, ty, pos, aft, g⟩ (.int k (((a + b) % 2 ^ k.bits : Nat) : Int)) :=
  PS.add hg hx hy (by rw [← Int.natCast_add]; exact wrap_mod h _)
end
end Go.Cx
/-! What a reading of an argument tells of the memory. No program in sight. -/
namespace Go.Cx
theorem rows_ints (k : IntKind) (l : List Int) : rows (fun z => [Value.int k z]) l = l.map (Value.int k) := by
  induction l with
  | nil => rfl
  | cons x l ih => simp only [rows, List.map_cons, List.flatten_cons] at ih ⊢; rw [ih]; rfl
theorem okWide_array {P : Program} {w : World} {r : Reach} {base : Nat} {t e : TypeId} {n : Nat} {v : Value} (ht : P.underlying t = some (.array n e)) (h : Value.okWide P w r base t v) : ∃ cs, v = .agg cs ∧ cs.size = P.cellsOf t := by
  unfold Value.okWide at h
  simp only [ht] at h
  obtain ⟨cs, h1, h2, _⟩ := h
  exact ⟨cs, h1, h2⟩
theorem agg_cells {q : Array Value} {l : List Value} (h : (Value.agg q).cells.toList = l) : Value.agg q = .agg l.toArray := by
  rw [← h]; rfl
theorem Ctr.law {P : Program} {f : FuncId} {args : List Value} {pre : PH → Prop} (C : Ctr P f args [] pre (fun v M => v = .bool true ∧ M = [])) {W : World} (hp : pre W.ph) :
    Calls P f args.toArray W fun e w' => e = .returned (.bool true) ∧ Go.RowKit.Below W.heap.size W w' :=
  (C W.ph W ⟨fun _ => true, by
    show Le W.ph _
    intro b o e; simp [PH.only, e], trivial⟩ hp).mono fun e w' h => by
      obtain ⟨v, H, ⟨rfl, rfl⟩, rfl, hs, he⟩ := h
      obtain ⟨S, a, _⟩ := hs
      exact ⟨rfl, below_of_exact (Le.trans a (only_le _ _)) he⟩
section
variable {H : Type} (enc : TypeId × Value → H) (P : Program) (w : World) (base : Nat) (spare : Nat → Bool) (held : Bool)
/-- Cells that may be read as of a type are those of something that is good. -/
def Rec {α : Type} (e : TypeId) (good : α → Prop) (f : α → List Value) : Prop :=
  ∀ n cs x, DataW.trod enc P w base spare held n e cs = some x → ∃ y, good y ∧ cs = f y
variable {enc P w base spare held}
theorem rec_int {t : TypeId} {k : IntKind} (ht : P.underlying t = some (.int k)) : Rec enc P w base spare held t (fun z : Int => (Lit.int k z).wf = true) (fun z => [.int k z]) := fun n cs x h => by
  obtain ⟨z, rfl, _, hw⟩ := DataW.trod_int ht h
  exact ⟨z, hw, rfl⟩
theorem wf_u8 {z : Int} (h : (Lit.int .u8 z).wf = true) : 0 ≤ z ∧ z < 256 := by
  simp [Lit.wf, IntKind.min, IntKind.max, IntKind.signed, IntKind.bits] at h; omega
theorem wf_u32 {z : Int} (h : (Lit.int .u32 z).wf = true) : 0 ≤ z ∧ z < 4294967296 := by
  simp [Lit.wf, IntKind.min, IntKind.max, IntKind.signed, IntKind.bits] at h; omega
theorem wf_u64 {z : Int} (h : (Lit.int .u64 z).wf = true) : 0 ≤ z ∧ z < 18446744073709551616 := by
  simp [Lit.wf, IntKind.min, IntKind.max, IntKind.signed, IntKind.bits] at h; omega
theorem wf_i64 {z : Int} (h : (Lit.int .i64 z).wf = true) : -9223372036854775808 ≤ z ∧ z ≤ 9223372036854775807 := by
  simp [Lit.wf, IntKind.min, IntKind.max, IntKind.signed, IntKind.bits] at h; omega
theorem rec_u8 {t : TypeId} (ht : P.underlying t = some (.int .u8)) : Rec enc P w base spare held t (fun z : Nat => z < 256) (fun z => [.int .u8 (z : Int)]) := fun n cs x h => by
  obtain ⟨z, hw, rfl⟩ := rec_int ht n cs x h
  have := wf_u8 hw
  exact ⟨z.toNat, by omega, by congr 2; omega⟩
theorem rec_block {t e : TypeId} (ht : P.underlying t = some (.array 128 e)) (he : P.underlying e = some (.int .u8)) (hc : P.cellsOf t = 128) (hd : P.cellsOf e = 1) : Rec enc P w base spare held t WB cb := fun n cs x h => by
  obtain ⟨xs, m, _, _, hl, hx, hi⟩ := DataW.trod_array ht h
  rw [hc] at hl
  have key : ∀ i (hi : i < cs.length), ∃ z : Nat, z < 256 ∧ cs[i] = .int .u8 (z : Int) := fun i hlt => by
    have := hi i (by omega)
    rw [hd, List.getElem?_eq_getElem (by omega)] at this
    obtain ⟨z, hz, e⟩ := rec_u8 he _ _ _ this
    refine ⟨z, hz, ?_⟩
    rw [Nat.mul_one] at e
    have h2 : ((cs.drop i).take 1)[0]? = some cs[i] := by simp [hlt]
    rw [e] at h2
    simpa using h2.symm
  refine ⟨cs.map fun v => match v with | .int .u8 z => UInt8.ofNat z.toNat | _ => 0, by simp [WB, hl], ?_⟩
  apply List.ext_getElem
  · simp
  · intro i h1 h2
    obtain ⟨z, hz, e⟩ := key i h1
    simp only [cb, ib, List.getElem_map, e]
    congr 1
    simp
    omega
theorem rec_struct2 {t : TypeId} {f0 f1 : Field} {α β : Type} {ga : α → Prop} {gb : β → Prop} {fa : α → List Value} {fb : β → List Value} (ht : P.underlying t = some (.struct #[f0, f1])) {s0 s1 : Nat}
    (h0 : f0.offset = 0) (h1 : f1.offset = s0) (c0 : P.cellsOf f0.type = s0) (c1 : P.cellsOf f1.type = s1) (ct : P.cellsOf t = s0 + s1)
    (ra : Rec enc P w base spare held f0.type ga fa) (rb : Rec enc P w base spare held f1.type gb fb) : Rec enc P w base spare held t (fun p : α × β => ga p.1 ∧ gb p.2) (fun p => fa p.1 ++ fb p.2) := fun n cs x h => by
  obtain ⟨y0, y1, m, _, hl, e0, e1⟩ := Go.ChangeShapes.trod_struct2 ht h
  obtain ⟨a, ga', ea⟩ := ra _ _ _ e0
  obtain ⟨b, gb', eb⟩ := rb _ _ _ e1
  refine ⟨(a, b), ⟨ga', gb'⟩, ?_⟩
  rw [h0, c0, List.drop_zero] at ea
  rw [h1, c1, List.take_of_length_le (by simp; omega)] at eb
  simp only [← ea, ← eb, List.take_append_drop]
theorem trod_fields {t : TypeId} {fs : Array Field} {fuel : Nat} {cs : List Value} {x : DataW H × List MemPlace} (ht : P.underlying t = some (.struct fs)) (h : DataW.trod enc P w base spare held fuel t cs = some x) :
    cs.length = P.cellsOf t ∧ ∃ m, ∀ (i : Nat) (f : Field), fs[i]? = some f → ∃ y, DataW.trod enc P w base spare held m f.type ((cs.drop f.offset).take (P.cellsOf f.type)) = some y := by
  obtain ⟨xs, m, _, _, hl, hx, hf⟩ := DataW.trod_struct ht h
  refine ⟨hl, m, fun i f hi => ?_⟩
  have : i < xs.length := by rw [hx]; exact (Array.getElem?_eq_some_iff.1 hi).1
  exact ⟨xs[i], by rw [hf i f hi, List.getElem?_eq_getElem this]⟩
theorem drop_part (cs : List Value) (a k : Nat) {p : List Value} (h : (cs.drop a).take k = p) : cs.drop a = p ++ cs.drop (a + k) := by
  rw [← h, ← List.drop_drop]; exact (List.take_append_drop k _).symm
/-- A slice's elements. -/
theorem open_rows {t e : TypeId} {α : Type} {good : α → Prop} {f : α → List Value} {sz fuel : Nat} {cs : List Value} {x : DataW H × List MemPlace} (ht : P.underlying t = some (.slice e)) (hc : P.cellsOf e = sz) (hpos : 0 < sz)
    (hE : Rec enc P w base spare held e good f) (h : DataW.trod enc P w base spare held fuel t cs = some x) :
    ∃ (a : Option Addr) (l : List α) (cap : Nat), cs = [.slice a l.length cap] ∧ (∀ y ∈ l, good y ∧ (f y).length = sz) ∧ (a = none → l = [] ∧ cap = 0) ∧ l.length ≤ cap ∧ cap ≤ maxLen ∧ rdx a (l.length * sz) (rows f l) w.ph := by
  rcases Go.Deep.open_slice ht h with ⟨rfl, _⟩ | ⟨a, len, cap, m, n, D, Pl, rfl, hb, hl, hm, hmm, _, hx⟩
  · exact ⟨none, [], 0, rfl, by simp, fun _ => ⟨rfl, rfl⟩, Nat.le_refl _, Nat.zero_le _, .inl (by simp)⟩
  have hmle : len ≤ m := by rw [hmm]; split <;> omega
  have key : ∀ i, i < len → ∃ y, good y ∧ (f y).length = sz ∧ ∀ j, j < sz → w.cell? ((a.add (i * sz)).add j) = (f y)[j]? := fun i hi => by
    obtain ⟨cs', h1, h2⟩ := hx i (by omega)
    obtain ⟨y, gy, e⟩ := hE _ _ _ h2
    obtain ⟨_, h3, h4⟩ := World.cells?_some h1
    rw [hc] at h3 h4
    exact ⟨y, gy, by rw [← e]; exact h3, fun j hj => by rw [← e]; exact h4 j hj⟩
  have : ∀ k, k ≤ len → ∃ l : List α, l.length = k ∧ (∀ y ∈ l, good y ∧ (f y).length = sz) ∧ ∀ i (hi : i < l.length) j, j < sz → w.cell? ((a.add (i * sz)).add j) = (f l[i])[j]? := by
    intro k
    induction k with
    | zero => intro _; exact ⟨[], rfl, by simp, fun i hi => by simp at hi⟩
    | succ k ih =>
      intro hk
      obtain ⟨l, e1, e2, e3⟩ := ih (by omega)
      obtain ⟨y, gy, ly, cy⟩ := key k (by omega)
      refine ⟨l ++ [y], by simp [e1], fun z hz => ?_, fun i hi j hj => ?_⟩
      · simp only [List.mem_append, List.mem_singleton] at hz
        rcases hz with hz | rfl
        · exact e2 z hz
        · exact ⟨gy, ly⟩
      · simp only [List.length_append, List.length_singleton] at hi
        by_cases hik : i < l.length
        · rw [List.getElem_append_left hik]; exact e3 i hik j hj
        · obtain rfl : i = l.length := by omega
          simp only [List.getElem_append_right (Nat.le_refl _), Nat.sub_self, List.getElem_cons_zero]
          rw [e1]; exact cy j hj
  obtain ⟨l, e1, e2, e3⟩ := this len (Nat.le_refl _)
  refine ⟨some a, l, cap, by rw [e1], e2, (fun h => by cases h), by omega, hm, ?_⟩
  by_cases h0 : l.length = 0
  · exact .inl (by simp [h0])
  right
  obtain ⟨b, o, sp⟩ := a
  have hp : 0 < l.length := by omega
  have h00 := e3 0 hp 0 hpos
  have hlen0 : 0 < (f l[0]).length := by rw [(e2 _ (by simp)).2]; exact hpos
  rw [List.getElem?_eq_getElem hlen0] at h00
  have hsp := World.cell?_spot h00
  have hsp' : sp = none := by simpa [Addr.add] using hsp
  subst hsp'
  simp only [addr_add] at e3 h00
  have hobj : ∃ c ty fr, w.heap[b]? = some (.cells c ty fr) := by
    unfold World.cell? at h00
    split at h00
    · rename_i c ty fr hh; exact ⟨c, ty, fr, hh⟩
    · cases h00
  obtain ⟨c, ty, fr, hh⟩ := hobj
  refine ⟨b, o, c, ty, fr, rfl, hh, fun j u hj => ?_⟩
  have hjl : j < l.length * sz := by
    have := (List.getElem?_eq_some_iff.1 hj).1
    rw [length_rows f sz l fun y hy => (e2 y hy).2] at this; exact this
  have hdm : j = (j / sz) * sz + j % sz := by rw [Nat.mul_comm]; exact (Nat.div_add_mod j sz).symm
  have hd : j / sz < l.length := (Nat.div_lt_iff_lt_mul hpos).2 hjl
  have hr := rows_at f sz l (fun y hy => (e2 y hy).2) (j / sz) hd (j % sz) (Nat.mod_lt _ hpos)
  rw [← hdm] at hr
  rw [hr] at hj
  have := e3 (j / sz) hd (j % sz) (Nat.mod_lt _ hpos)
  rw [hj] at this
  unfold World.cell? at this
  simp only [hh] at this
  rw [show o + j / sz * sz + j % sz = o + j by omega] at this
  simpa using this
end
end Go.Cx
/-! Stepping: rows of bytes. No program in sight. -/
namespace Go.Cx
theorem one_all {vs : List Value} (h : vs.all (·.oneCell') = true) : ∀ u ∈ vs, u.oneCell' = true := fun u hu => List.all_eq_true.1 h u hu
theorem cb_at (B : Blk) (j : Nat) (hj : j < B.length) : (cb B)[j * 1]? = some (.int .u8 (B[j].toNat : Int)) := by rw [Nat.mul_one]; exact cb_get B j hj
theorem cb_set (B : Blk) (j : Nat) (hj : j < B.length) (c : UInt8) : setL (cb B) (j * 1) [.int .u8 (c.toNat : Int)] = cb (B.set j c) := by
  rw [Nat.mul_one, setL_one _ _ _ (by simpa using hj)]
  simp [cb, ib, List.map_set]
theorem cb_set0 (B : Blk) (j : Nat) (hj : j < B.length) (c : UInt8) : setL (cb B) (0 + j * 1) [.int .u8 (c.toNat : Int)] = cb (B.set j c) := by rw [Nat.zero_add]; exact cb_set B j hj c
theorem rdx_some {a : Option Addr} {len : Nat} {vs : List Value} {x : PH} (h : rdx a len vs x) (h0 : 0 < len) : ∃ g off, a = some ⟨g, off, none⟩ := by
  rcases h with h | ⟨g, off, cs, t, fr, rfl, _⟩
  · omega
  · exact ⟨g, off, rfl⟩
theorem CellAt.rd {L L' : List Assn} {x : PH} {g off len j : Nat} {B : Blk} (p : Pick (Cx.exact x) L L') (h : rdx (some ⟨g, off, none⟩) len (cb B) x) (hl : len = B.length) (hj : j < B.length) : CellAt L g (off + j * 1) (.int .u8 (B[j].toNat : Int)) := by
  rcases h with h | ⟨g', off', cs, t, fr, e, hx, hc⟩
  · omega
  · simp only [Option.some.injEq, Addr.mk.injEq, and_true] at e
    obtain ⟨rfl, rfl⟩ := e
    exact CellAt.exact p ⟨cs, t, fr, hx, hc _ _ (cb_at B j hj)⟩
theorem CellAt.ownB {L L' : List Assn} {e n cap g j : Nat} {B : Blk} (p : Pick (Cx.own e 1 (some ⟨g, 0, none⟩) n cap (cb B)) L L') (hj : j < B.length) : CellAt L g (j * 1) (.int .u8 (B[j].toNat : Int)) := CellAt.own p (cb_at B j hj)
theorem CellAt.bkB {L L' : List Assn} {b t j : Nat} {B : Blk} (p : Pick (bk b t (cb B)) L L') (hj : j < B.length) : CellAt L b (0 + j * 1) (.int .u8 (B[j].toNat : Int)) := CellAt.pick p (by rw [Nat.zero_add]; exact cb_at B j hj)
/-- A row of equal parts that can be read: a part of it. -/
theorem CellAt.row {α : Type} {f : α → List Value} {k : Nat} {l : List α} {L L' : List Assn} {x : PH} {g off n i j : Nat} {v : Value} (p : Pick (Cx.exact x) L L') (h : rdx (some ⟨g, off, none⟩) n (rows f l) x) (h0 : 0 < n) (hf : ∀ y ∈ l, (f y).length = k) (hi : i < l.length)
    (hv : (f l[i])[j]? = some v) : CellAt L g (off + i * k + j) v := by
  rcases h with h | ⟨g', off', cs, t, fr, e, hx, hc⟩
  · omega
  · simp only [Option.some.injEq, Addr.mk.injEq, and_true] at e
    obtain ⟨rfl, rfl⟩ := e
    have hj : j < k := by have := (List.getElem?_eq_some_iff.1 hv).1; rw [hf _ (by simp)] at this; exact this
    have := rows_at f k l hf i hi j hj
    refine CellAt.exact p ⟨cs, t, fr, hx, ?_⟩
    rw [Nat.add_assoc]; exact hc _ v (by rw [this]; exact hv)
theorem CellsAt.row {α : Type} {f : α → List Value} {k : Nat} {l : List α} {L L' : List Assn} {x : PH} {g off n i : Nat} (p : Pick (Cx.exact x) L L') (h : rdx (some ⟨g, off, none⟩) n (rows f l) x) (h0 : 0 < n) (hf : ∀ y ∈ l, (f y).length = k) (hi : i < l.length) : CellsAt L g (off + i * k) (f l[i]) := by
  rcases h with h | ⟨g', off', cs, t, fr, e, hx, hc⟩
  · omega
  · simp only [Option.some.injEq, Addr.mk.injEq, and_true] at e
    obtain ⟨rfl, rfl⟩ := e
    refine CellsAt.exact p ⟨cs, t, fr, hx, fun j v hj => ?_⟩
    have hjk : j < k := by have := (List.getElem?_eq_some_iff.1 hj).1; rw [hf _ (by simp)] at this; exact this
    have := rows_at f k l hf i hi j hjk
    rw [Nat.add_assoc]; exact hc _ v (by rw [this]; exact hj)
theorem CellAt.row1 {α : Type} {f : α → List Value} {l : List α} {L L' : List Assn} {x : PH} {g off n i : Nat} {v : Value} (p : Pick (Cx.exact x) L L') (h : rdx (some ⟨g, off, none⟩) n (rows f l) x) (h0 : 0 < n) (hf : ∀ y ∈ l, (f y).length = 1) (hi : i < l.length)
    (hv : f l[i] = [v]) : CellAt L g (off + i * 1) v := CellAt.row (j := 0) p h h0 hf hi (by rw [hv]; rfl)
theorem CellAt.ints {L L' : List Assn} {x : PH} {g off n i : Nat} {l : List Int} (p : Pick (Cx.exact x) L L') (h : rdx (some ⟨g, off, none⟩) n (l.map (Value.int .i64)) x) (hi : i < l.length) (h0 : 0 < n) : CellAt L g (off + i * 1) (.int .i64 l[i]) := by
  rw [← rows_ints] at h
  exact CellAt.row1 (f := fun z => [Value.int .i64 z]) p h h0 (fun _ _ => rfl) hi rfl
/-- A part of what can be read can be read. -/
theorem rdx_part {a : Option Addr} {len g off : Nat} {B : Blk} {x : PH} (ha : a = some ⟨g, off, none⟩) (h : rdx a len (cb B) x) (hl : len = B.length) (i m : Nat) (hm : i + m ≤ B.length) : rdx (some ⟨g, off + i, none⟩) m (cb ((B.drop i).take m)) x := by
  subst ha
  rcases h with h | ⟨g', off', cs, t, fr, e, hx, hc⟩
  · exact .inl (by omega)
  · simp only [Option.some.injEq, Addr.mk.injEq, and_true] at e
    obtain ⟨rfl, rfl⟩ := e
    refine .inr ⟨g, off + i, cs, t, fr, rfl, hx, fun j u hu => ?_⟩
    rw [← cb_take, ← cb_drop, List.getElem?_take, List.getElem?_drop] at hu
    split at hu
    · rw [Nat.add_assoc]; exact hc _ _ hu
    · cases hu
theorem RdS.rdx {L L' : List Assn} {x : PH} {a : Option Addr} {len : Nat} {B : Blk} (p : Pick (Cx.exact x) L L') (h : Cx.rdx a len (cb B) x) (hl : len = B.length) : RdS L a len (cb B) :=
  RdS.exact p (one_cb B) (by simp [hl]) h
theorem rdx_own {L L' : List Assn} {e n cap : Nat} {a : Option Addr} {B : Blk} (p : Pick (own e 1 a n cap (cb B)) L L') (hn : n = B.length) : ∀ y, Sep L y → rdx a n (cb B) y := by
  subst hn; exact rdx_RdS (RdS.own p (one_cb B) (by simp))
theorem rdx_bk {L L' : List Assn} {b t : Nat} {B : Blk} (p : Pick (bk b t (cb B)) L L') (o m : Nat) (hm : o + m ≤ B.length) : ∀ y, Sep L y → rdx (some ⟨b, o, none⟩) m (cb ((B.drop o).take m)) y :=
  rdx_RdS (RdS.pick p (by simp; omega) (one_cb _) (by rw [cb_drop, cb_take]))
theorem rdx_ex {L L' : List Assn} {x : PH} (p : Pick (Cx.exact x) L L') {a : Option Addr} {len : Nat} {vs : List Value} (h : rdx a len vs x) : ∀ y, Sep L y → rdx a len vs y := fun y hy => rdx_mono h (p.ok hy)
theorem own_fact {e sz m cap : Nat} {a : Option Addr} {xs : List Value} {L L' : List Assn} (p : Pick (own e sz a m cap xs) L L') (h0 : 0 < m) : ∀ h, Sep L h → m ≤ cap ∧ ∃ b, a = some ⟨b, 0, none⟩ := fun h hs => by
  refine ⟨(own_ok.1 (p.ok hs)).2.1, ?_⟩
  rcases own_some (p.ok hs) with ⟨_, h1, _⟩ | h1
  · omega
  · exact h1
theorem rdx_pre {g off len : Nat} {B : Blk} {y : PH} (h : rdx (some ⟨g, off, none⟩) len (cb B) y) (hl : len = B.length) (k : Nat) (hk : k ≤ B.length) : rdx (some ⟨g, off, none⟩) k (cb (B.take k)) y := by
  have := rdx_part rfl h hl 0 k (by omega)
  simpa using this
theorem flat_at {S : List Blk} (h : ∀ b ∈ S, WB b) {k : Nat} (hk : k < S.length) : ((flat S).drop (k * 128)).take 128 = cb S[k] := by
  have := rows_get cb 128 S (fun x hx => by rw [length_cb]; exact h x hx) k hk 0 128 (by omega)
  rw [Nat.add_zero] at this
  rw [flat, this, List.drop_zero, List.take_of_length_le]
  have := h S[k] (by simp)
  rw [length_cb, this]; exact Nat.le_refl _
theorem boE {b c : Bool} (h : b = c) : some (Value.bool b) = some (Value.bool c) := by rw [h]
/-- The first cells of what can be read. -/
theorem rdx_front {a : Option Addr} {len : Nat} {B : Blk} {y : PH} (h : rdx a len (cb B) y) (hl : len = B.length) (k : Nat) (hk : k ≤ B.length) : rdx a k (cb (B.take k)) y := by
  rcases Nat.eq_zero_or_pos k with rfl | h0
  · exact .inl rfl
  · obtain ⟨g, off, rfl⟩ := rdx_some h (by omega)
    have := rdx_part rfl h hl 0 k (by omega)
    simpa using this
theorem own_max {e sz m cap : Nat} {a : Option Addr} {xs : List Value} {L L' : List Assn} (p : Pick (own e sz a m cap xs) L L') {h : PH} (hs : Sep L h) : cap ≤ 9223372036854775807 := by
  have := (own_ok.1 (p.ok hs)).2.2.1
  simp only [maxLen] at this; omega
theorem two_set0 {X Y Z : Blk} (w : WB X) (z : WB Z) : setL (cb X ++ cb Y) (0 + 0 * 128) (cb Z) = cb Z ++ cb Y := by
  have h1 : (cb X).length = 128 := w.len
  have h2 : (cb Z).length = 128 := z.len
  simp only [setL, Nat.zero_mul, Nat.zero_add, List.take_zero, List.nil_append, h2]
  rw [List.drop_append, List.drop_of_length_le (by omega), h1]; simp
theorem two_set1 {X Y Z : Blk} (w : WB X) (y : WB Y) (z : WB Z) : setL (cb X ++ cb Y) (0 + 1 * 128) (cb Z) = cb X ++ cb Z := by
  have h1 : (cb X).length = 128 := w.len
  have h2 : (cb Z).length = 128 := z.len
  have h3 : (cb Y).length = 128 := y.len
  simp only [setL, Nat.one_mul, Nat.zero_add, h2]
  rw [List.drop_of_length_le (by rw [List.length_append]; omega), List.append_nil, List.take_append_of_le_length (by omega), List.take_of_length_le (by omega)]
theorem two_z : (List.replicate 256 (Value.int .u8 0)) = cb zblk ++ cb zblk := by rw [cb_z, List.replicate_append_replicate]
theorem two_part {L L' : List Assn} {q t i : Nat} {A B : Blk} (p : Pick (bk q t (cb A ++ cb B)) L L') (hA : WB A) (hi : i < 2) : CellsAt L q (0 + i * 128) (cb (if i = 0 then A else B)) := by
  have h1 : (cb A).length = 128 := hA.len
  rcases (show i = 0 ∨ i = 1 by omega) with rfl | rfl
  · exact CellsAt.pick p (by simp)
  · exact CellsAt.pick p (by
      rw [List.drop_append, List.drop_of_length_le (by omega), h1, Nat.zero_add, Nat.one_mul, Nat.sub_self, List.drop_zero, List.nil_append]
      exact List.take_length)
theorem fillL_cons {place : Nat → Option (Nat × Nat)} {i off size : Nat} {v : Value} {rest : List (Nat × Value)} {cells out : List Value} (hp : place i = some (off, size)) (hs : v.cells.size = size) (hl : off + size ≤ cells.length)
    (h : fillL place (setL cells off v.cells.toList) rest = some out) : fillL place cells ((i, v) :: rest) = some out := by
  unfold fillL
  rw [hp]
  dsimp only
  rw [if_pos ⟨hs, by omega⟩]; exact h
theorem fill_two {A B : Blk} (hA : WB A) (hB : WB B) : fillL (fun i => some (i * 128, 128)) (List.replicate 256 (Value.int .u8 0)) [(0, .agg (cb A).toArray), (1, .agg (cb B).toArray)] = some (cb A ++ cb B) := by
  have s0 : (Value.agg (cb A).toArray).cells.size = 128 := by show (cb A).toArray.size = 128; rw [List.size_toArray]; exact hA.len
  have s1 : (Value.agg (cb B).toArray).cells.size = 128 := by show (cb B).toArray.size = 128; rw [List.size_toArray]; exact hB.len
  have e0 : setL (cb zblk ++ cb zblk) (0 * 128) (Value.agg (cb A).toArray).cells.toList = cb A ++ cb zblk := by
    have := two_set0 (Y := zblk) WB_z hA
    rw [Nat.zero_add] at this; exact this
  have e1 : setL (cb A ++ cb zblk) (1 * 128) (Value.agg (cb B).toArray).cells.toList = cb A ++ cb B := by
    have := two_set1 hA WB_z hB
    rw [Nat.zero_add] at this; exact this
  have l0 : (cb zblk ++ cb zblk).length = 256 := by rw [← two_z, List.length_replicate]
  have l1 : (cb A ++ cb zblk).length = 256 := by rw [List.length_append, hA.len, WB_z.len]
  rw [two_z]
  refine fillL_cons (off := 0 * 128) (size := 128) rfl s0 (by rw [l0]; omega) ?_
  rw [e0]
  refine fillL_cons (off := 1 * 128) (size := 128) rfl s1 (by rw [l1]; omega) ?_
  rw [e1]
  rfl
theorem two_at0 {L L' : List Assn} {q t : Nat} {X Y : Blk} (p : Pick (bk q t (cb X ++ cb Y)) L L') : CellsAt L q (0 + 0 * 128) (cb X) := CellsAt.pick p (by simp)
theorem two_at1 {L L' : List Assn} {q t : Nat} {X Y : Blk} (p : Pick (bk q t (cb X ++ cb Y)) L L') (w : WB X) : CellsAt L q (0 + 1 * 128) (cb Y) := CellsAt.pick p (by
  have : (cb X).length = 128 := w.len
  rw [List.drop_append, List.drop_of_length_le (by omega), this, Nat.zero_add, Nat.one_mul, Nat.sub_self, List.drop_zero, List.nil_append, List.take_length])
theorem own_front {e n c : Nat} {a : Option Addr} {Z : Blk} {L : List Assn} {h : PH} (hn : n ≤ c) (hZ : Z.length = c) (s : Sep (own e 1 a c c (cb Z) :: L) h) : Sep (own e 1 a n c (cb (Z.take n)) :: L) h := by
  obtain ⟨S, o, r⟩ := s
  refine ⟨S, ?_, r⟩
  obtain ⟨h1, h2, h3, h4⟩ := own_ok.1 o
  refine own_ok.2 ⟨by simp; omega, hn, h3, ?_⟩
  rcases h4 with h4 | ⟨g, cur, e1, e2, e3, e4⟩
  · exact .inl h4
  · refine .inr ⟨g, cur, e1, e2, e3, ?_⟩
    rw [← cb_take, ← e4, List.take_take]
    congr 1; omega
theorem Ctr.conseq {P : Program} {f : FuncId} {args : List Value} {H : List Assn} {pre : PH → Prop} {post post' : Value → List Assn → Prop} (S : Ctr P f args H pre post)
    (hq : ∀ v M, post v M → ∃ M', post' v M' ∧ ∀ x h, Sep (M ++ [exact x]) h → Sep (M' ++ [exact x]) h) : Ctr P f args H pre post' := fun x w hs h =>
  (S x w hs h).mono fun e w' ⟨v, M, a, b, c, d⟩ => by
    obtain ⟨M', q1, q2⟩ := hq v M a
    exact ⟨v, M', q1, b, q2 x _ c, d⟩
section
variable {P : Program} {ops : Array Oper} {Q : Exit → Act → World → Prop} {n : Nat} {e0 : World} {env : Env} {L : List Assn} {rest : List Oper}
variable {dst : Option Tmp} {ty : TypeId} {pos : String} {aft : Array Edge} {g : Option (Nat × Bool)}
theorem CX.index0 {t e sz : Nat} [E : ElemA P t e sz] {x y : Operand} {b len cap : Nat} (j : Nat) {k : IntKind} {i : Int} (hl : j < len) (h : CX P ops Q n e0 (putE env dst (.pointer (some ⟨b, j * sz, none⟩))) L rest)
    (hg : gd ops n env g = some true := by rfl) (hx : ev n env x = some (.slice (some ⟨b, 0, none⟩) len cap) := by rfl) (hy : ev n env y = some (.int k i) := by rfl) (hi : i = (j : Int) := by first | rfl | omega) :
    CX P ops Q n e0 env L (⟨dst, .indexAddr t x y, ty, pos, aft, g⟩ :: rest) := CX.ps (PS.indexAddr hg hx hy hi hl) (by rw [Nat.zero_add]; exact h)
theorem CX.storeOB {t e : TypeId} [Z : SzT P t 1] {x y : Operand} {b k cap : Nat} {B : Blk} {M : List Assn} (j : Nat) (c : UInt8) (hj : j < B.length) (hk : k = B.length)
    (h : CX P ops Q n e0 (putE env dst undef) (own e 1 (some ⟨b, 0, none⟩) k cap (cb (B.set j c)) :: M) rest) (hg : gd ops n env g = some true := by rfl) (hx : ev n env x = some (.pointer (some ⟨b, j * 1, none⟩)) := by rfl)
    (hy : ev n env y = some (.int .u8 (c.toNat : Int)) := by rfl) (p : Pick (own e 1 (some ⟨b, 0, none⟩) k cap (cb B)) L M := by first | exact pickA | exact updA) : CX P ops Q n e0 env L (⟨dst, .store t x y, ty, pos, aft, g⟩ :: rest) := by
  refine CX.storeOwn (Z := Z) (v := .int .u8 (c.toNat : Int)) hg hx hy rfl (by intro u hu; simp [Value.cells] at hu; rw [hu]; rfl) p (by omega) ?_
  have e : setL (cb B) (j * 1) (Value.int .u8 (c.toNat : Int)).cells.toList = cb (B.set j c) := cb_set B j hj c
  rw [e]; exact h
theorem CX.storeBB {t bt : TypeId} [Z : SzT P t 1] {x y : Operand} {b : Nat} {B : Blk} {L' : List Assn} (j : Nat) (c : UInt8) (hj : j < B.length)
    (h : CX P ops Q n e0 (putE env dst undef) L' rest) (hg : gd ops n env g = some true := by rfl) (hx : ev n env x = some (.pointer (some ⟨b, 0 + j * 1, none⟩)) := by rfl)
    (hy : ev n env y = some (.int .u8 (c.toNat : Int)) := by rfl) (hu : Upd (bk b bt (cb B)) (bk b bt (cb (B.set j c))) L L' := by first | exact pickA | exact updA) : CX P ops Q n e0 env L (⟨dst, .store t x y, ty, pos, aft, g⟩ :: rest) := by
  refine CX.storeC (Z := Z) (v := .int .u8 (c.toNat : Int)) (cs := cb B) (bt := bt) hg hx hy rfl (by intro u hu; simp [Value.cells] at hu; rw [hu]; rfl) ?_ (by simp; omega) h
  have e : setL (cb B) (0 + j * 1) (Value.int .u8 (c.toNat : Int)).cells.toList = cb (B.set j c) := cb_set0 B j hj c
  rw [e]; exact hu
/-- A slice of a byte, and its append. -/
theorem CX.appB {t e by_ : Nat} {z : Value} [E : ElemA P t e 1] [Z : ZeroA P e z] [I : InfA P e 1 by_ z] {y x : Operand} {d1 : Tmp} {ty2 : TypeId} {pos2 : String} {aft2 : Array Edge} {g2 : Option (Nat × Bool)} {dst2 : Option Tmp} {a : Option Addr} {k cap : Nat} {B : Blk} {M : List Assn} (c : UInt8)
    (hk : (k + 1) * by_ ≤ 140737488355328) (hz : z.cells.size = 1) (h : ∀ bq a' cap', CX P ops Q n e0 (putE (putE env (some d1) (.slice (some ⟨bq, 0, none⟩) 1 1)) dst2 (.slice a' (k + 1) cap')) (own e 1 a' (k + 1) cap' (cb (B ++ [c])) :: M) rest)
    (hg : gd ops n env g = some true := by rfl) (hg2 : ∀ v, gd ops n (putE env (some d1) v) g2 = some true := by intro v; rfl) (hy : ev n env y = some (.int .u8 (c.toNat : Int)) := by rfl) (hx : ∀ v, ev n (putE env (some d1) v) x = some (.slice a k cap) := by intro v; rfl) (hd : ∀ v, ev n (putE env (some d1) v) (.tmp d1) = some v := by intro v; rfl)
    (p : Pick (own e 1 a k cap (cb B)) L M := by first | exact pickA | exact updA) :
    CX P ops Q n e0 env L (⟨some d1, .buildSlice t 1 #[(0, y)], ty, pos, aft, g⟩ :: ⟨dst2, .call ⟨.builtin .append, #[x, .tmp d1], #[t, t]⟩, ty2, pos2, aft2, g2⟩ :: rest) := by
  have hf : fillL (fun i => some (i * 1, 1)) ((Array.range (1 * 1)).map (z.cells[· % z.cells.size]!)).toList [(0, .int .u8 (c.toNat : Int))] = some [.int .u8 (c.toNat : Int)] := by
    simp [fillL, Value.cells, setL]
  refine CX.buildSl (parts := [(0, y)]) (vs := [(0, .int .u8 (c.toNat : Int))]) (out := [.int .u8 (c.toNat : Int)]) hg (by simp [evp, hy]) (by decide) hf fun bq => ?_
  refine CX.append (I := I) (m := 1) (news := [.int .u8 (c.toNat : Int)]) (hg2 _) (hx _) (hd _) (.tail p) (RdS.pick (.head _) rfl (by simp [Value.oneCell']) rfl) hk (fun hh => by cases hh) fun a' cap' => ?_
  have ea : cb B ++ [.int .u8 (c.toNat : Int)] = cb (B ++ [c]) := by simp [cb, ib]
  rw [ea]
  exact CX.mem (fun _ s => Sep.cons_mono (fun _ => Sep.tail) s) (h bq a' cap')
theorem CX.makeB {t e by_ : Nat} [E : ElemA P t e 1] [I : InfA P e 1 by_ (.int .u8 0)] {x y : Operand} {k k' : IntKind} {i : Int} (l : Nat) (hb : by_ * l ≤ 281474976710656) (h : ∀ b, CX P ops Q n e0 (putE env dst (.slice (some ⟨b, 0, none⟩) l l)) (own e 1 (some ⟨b, 0, none⟩) l l (cb (List.replicate l 0)) :: L) rest)
    (hg : gd ops n env g = some true := by rfl) (hx : ev n env x = some (.int k i) := by rfl) (hy : ev n env y = some (.int k' i) := by rfl) (hi : i = (l : Int) := by first | rfl | omega) : CX P ops Q n e0 env L (⟨dst, .makeSlice t x y, ty, pos, aft, g⟩ :: rest) := by
  refine CX.makeSl (I := I) (l := l) hg hx hy hi hb fun b => ?_
  have e : (madeCells (Value.int .u8 0).cells (l * 1)).toList = cb (List.replicate l 0) := by
    have := made_rep (.int .u8 0) 1 (l * 1) (by omega)
    rw [Nat.mul_one] at this ⊢
    simpa [Value.cells, cb, ib] using this
  rw [e]; exact h b
/-- Bytes behind an empty slice: new memory, of which all is known. -/
theorem CX.appendF {t e by_ : Nat} [E : ElemA P t e 1] [I : InfA P e 1 by_ (.int .u8 0)] {x y : Operand} {b0 m c : Nat} {b : Option Addr} {C : Blk} (hC : C.length = m) (h0 : 0 < m) (hb : m * by_ ≤ 140737488355328) (hr : RdS L b m (cb C))
    (h : ∀ q cap Z, m ≤ cap → Z.length = cap → Z.take m = C → CX P ops Q n e0 (putE env dst (.slice (some ⟨q, 0, none⟩) m cap)) (own e 1 (some ⟨q, 0, none⟩) cap cap (cb Z) :: L) rest)
    (hg : gd ops n env g = some true := by rfl) (hx : ev n env x = some (.slice (some ⟨b0, 0, none⟩) 0 0) := by rfl) (hy : ev n env y = some (.slice b m c) := by rfl) :
    CX P ops Q n e0 env L (⟨dst, .call ⟨.builtin .append, #[x, y], #[t, t]⟩, ty, pos, aft, g⟩ :: rest) := by
  refine CX.step hg fun w0 w hf hs he K hK => ?_
  obtain ⟨i, hi, hz, hsz, hby⟩ := info_parts I.inf
  obtain ⟨h1, hrd⟩ := hr
  obtain ⟨hl, hcell⟩ := hrd _ hs
  have hbp := I.bpos
  have hm63 : m ≤ m * by_ := Nat.le_mul_of_pos_right _ hbp
  rcases hcell with hc0 | ⟨q, off, cs, bt, fr, rfl, hq, hc⟩
  · omega
  have hrun := run_append_grow (P := P) w t ty e i (.int .u8 0) E.under hi hz ⟨b0, 0, none⟩ 0 0 [] (by simp) (by intro j v hj; simp at hj) ⟨q, off, none⟩ m c (cb C) (by rw [hsz, Nat.mul_one, length_cb, hC])
    (fun j v hj => by rw [addr_add]; exact cell_ph hq (hc j v hj)) (by omega) (by omega) (growslice_fits (by omega) (by rw [hby, Nat.zero_add]; exact hb))
  simp only [Nat.zero_add] at hrun
  have hge := grownCap_ge w m 0 e
  have hcm : grownCap w m 0 e ≤ maxLen := grownCap_le_maxLen w m 0 e (by unfold maxLen; omega)
  generalize grownCap w m 0 e = cap at hrun hge hcm
  have hr2 : (execOp w0.eval ⟨dst, .call ⟨.builtin .append, #[x, y], #[t, t]⟩, ty, pos, aft, g⟩).run P w = .ok (.value (.slice (some ⟨w.heap.size, 0, none⟩) m cap)) (w.drew.alloc (.cells ((cb (C ++ List.replicate (cap - m) 0)).toArray) e)) := by
    have ec : (([] : List Value).toArray ++ (cb C).toArray ++ Builtin.zeroCells (Value.int .u8 0).cells (cap - m)) = (cb (C ++ List.replicate (cap - m) 0)).toArray := by
      have ez : (Builtin.zeroCells (Value.int .u8 0).cells (cap - m)).toList = List.replicate (cap - m) (Value.int .u8 0) := by
        apply List.ext_getElem
        · simp [Builtin.zeroCells, Value.cells]
        · intro i h1 h2
          simp [Builtin.zeroCells, Value.cells, Nat.mod_one]
      apply Array.ext'
      simp [cb_append, ez]
      simp [cb, ib]
    rw [ec] at hrun
    simp [execOp, resolve, invoke, builtin, hf.eval hx, hf.eval hy, hrun]
  unfold Oper.wp
  rw [hr2]
  refine hK _ _ (h w.heap.size cap (C ++ List.replicate (cap - m) 0) hge (by simp; omega) (by rw [List.take_append_of_le_length (by omega), List.take_of_length_le (by omega)]) _ _ (hf.put dst _) ?_ (he.trans ⟨rfl, rfl, rfl⟩))
  rw [ph_alloc]
  refine Sep.push (ph_size w) (fun k hk => own_ok.2 ⟨by simp; omega, Nat.le_refl _, hcm, .inr ⟨_, _, rfl, hk, by simp; omega, by rw [Nat.mul_one]; exact List.take_of_length_le (by simp; omega)⟩⟩) hs
/-- A block that is a slice's own row. -/
theorem CX.ownBk {b e sz m : Nat} {cs : List Value} {M : List Assn} (p : Pick (bk b e cs) L M) (hl : cs.length = m * sz) (hm : m ≤ maxLen) (h : CX P ops Q n e0 env (own e sz (some ⟨b, 0, none⟩) m m cs :: M) rest) : CX P ops Q n e0 env L rest :=
  CX.mem (fun hp s => by
    obtain ⟨S, a, r⟩ := p.sep s
    exact ⟨S, own_ok.2 ⟨hl, Nat.le_refl _, hm, .inr ⟨b, cs.toArray, rfl, bk_ok.1 a, by simp [hl], by simp [hl, List.take_of_length_le]⟩⟩, r⟩) h
end
end Go.Cx
/-! Keys in order, tables, changes, batches: plain laws. No program in sight. -/
namespace Go.Cx
/-! ### Keys, in order -/
def klt (a b : Blk) : Bool := Op.bytesLess a b
theorem klt_nil (a : Blk) : klt a [] = false := by unfold klt; cases a <;> rfl
theorem klt_cons (x y : UInt8) (a b : Blk) : klt (x :: a) (y :: b) = (decide (x < y) || (x == y && klt a b)) := by rfl
theorem klt_irr (a : Blk) : klt a a = false := by
  induction a with
  | nil => rfl
  | cons x a ih => rw [klt_cons, ih]; simp [UInt8.lt_irrefl]
theorem klt_tr {a b c : Blk} (h : klt a b = true) (k : klt b c = true) : klt a c = true := by
  induction a generalizing b c with
  | nil =>
    cases c with
    | nil => rw [klt_nil] at k; cases k
    | cons z c => rfl
  | cons x a ih =>
    cases b with
    | nil => rw [klt_nil] at h; cases h
    | cons y b =>
      cases c with
      | nil => rw [klt_nil] at k; cases k
      | cons z c =>
        rw [klt_cons] at h k ⊢
        simp only [Bool.or_eq_true, decide_eq_true_eq, Bool.and_eq_true, beq_iff_eq] at h k ⊢
        rcases h with h | ⟨rfl, h⟩
        · rcases k with k | ⟨rfl, k⟩
          · exact .inl (UInt8.lt_trans h k)
          · exact .inl h
        · rcases k with k | ⟨rfl, k⟩
          · exact .inl k
          · exact .inr ⟨rfl, ih h k⟩
theorem klt_tri (a b : Blk) : klt a b = true ∨ a = b ∨ klt b a = true := by
  induction a generalizing b with
  | nil => cases b with
    | nil => exact .inr (.inl rfl)
    | cons y b => exact .inl rfl
  | cons x a ih =>
    cases b with
    | nil => exact .inr (.inr rfl)
    | cons y b =>
      simp only [klt_cons, Bool.or_eq_true, decide_eq_true_eq, Bool.and_eq_true, beq_iff_eq, List.cons.injEq]
      rcases Nat.lt_trichotomy x.toNat y.toNat with h | h | h
      · exact .inl (.inl h)
      · have e : x = y := UInt8.toNat_inj.1 h
        subst e
        rcases ih b with h | h | h
        · exact .inl (.inr ⟨rfl, h⟩)
        · exact .inr (.inl ⟨rfl, h⟩)
        · exact .inr (.inr (.inr ⟨rfl, h⟩))
      · exact .inr (.inr (.inl h))
theorem klt_asym {a b : Blk} (h : klt a b = true) : klt b a = false := by
  cases k : klt b a with
  | false => rfl
  | true => have := klt_tr h k; rw [klt_irr] at this; cases this
theorem klt_ne {a b : Blk} (h : klt a b = true) : a ≠ b := fun e => by subst e; rw [klt_irr] at h; cases h
/-! ### Tables -/
abbrev Tab := List (Blk × Blk)
def Rising (t : Tab) : Prop := t.Pairwise fun x y => klt x.1 y.1 = true
def val (t : Tab) (k : Blk) : Option Blk := (t.find? (·.1 == k)).map (·.2)
theorem val_nil (k : Blk) : val [] k = none := rfl
theorem val_cons (x : Blk × Blk) (t : Tab) (k : Blk) : val (x :: t) k = if x.1 = k then some x.2 else val t k := by
  unfold val
  rw [List.find?_cons]
  by_cases h : x.1 = k
  · simp [h]
  · simp [h, beq_eq_false_iff_ne.2 h]
theorem val_low {t : Tab} {k : Blk} (h : ∀ y ∈ t, klt k y.1 = true) : val t k = none := by
  induction t with
  | nil => rfl
  | cons x t ih =>
    rw [val_cons, if_neg (fun e => klt_ne (h x (by simp)) e.symm)]
    exact ih fun y hy => h y (by simp [hy])
theorem val_mem {t : Tab} (r : Rising t) {x : Blk × Blk} (h : x ∈ t) : val t x.1 = some x.2 := by
  induction t with
  | nil => cases h
  | cons y t ih =>
    rw [val_cons]
    rcases List.mem_cons.1 h with rfl | h
    · simp
    · rw [if_neg (klt_ne ((List.pairwise_cons.1 r).1 x h))]
      exact ih (List.pairwise_cons.1 r).2 h
theorem mem_val {t : Tab} {k v : Blk} (h : val t k = some v) : (k, v) ∈ t := by
  induction t with
  | nil => cases h
  | cons x t ih =>
    rw [val_cons] at h
    split at h
    · rename_i e; subst e; cases h; simp
    · simp [ih h]
/-- Two tables that tell the same are the same. -/
theorem val_ext {a b : Tab} (ra : Rising a) (rb : Rising b) (h : ∀ k, val a k = val b k) : a = b := by
  induction a generalizing b with
  | nil =>
    cases b with
    | nil => rfl
    | cons y b => have := h y.1; rw [val_nil, val_cons, if_pos rfl] at this; cases this
  | cons x a ih =>
    cases b with
    | nil => have := h x.1; rw [val_nil, val_cons, if_pos rfl] at this; cases this
    | cons y b =>
      have pa := List.pairwise_cons.1 ra
      have pb := List.pairwise_cons.1 rb
      have key : x.1 = y.1 := by
        rcases klt_tri x.1 y.1 with hl | he | hl
        · have h1 := h x.1
          rw [val_cons, if_pos rfl, val_cons, if_neg (klt_ne hl).symm, val_low (fun z hz => klt_tr hl (pb.1 z hz))] at h1
          cases h1
        · exact he
        · have h1 := h y.1
          rw [val_cons, val_cons, if_pos rfl, if_neg (klt_ne hl).symm, val_low (fun z hz => klt_tr hl (pa.1 z hz))] at h1
          cases h1
      have hv : x.2 = y.2 := by
        have h1 := h x.1
        rw [val_cons, if_pos rfl, val_cons, if_pos key.symm] at h1
        exact Option.some.inj h1
      have e : x = y := Prod.ext key hv
      subst e
      congr 1
      refine ih pa.2 pb.2 fun k => ?_
      have h1 := h k
      rw [val_cons, val_cons] at h1
      split at h1
      · rename_i e; subst e
        rw [val_low pa.1, val_low pb.1]
      · exact h1
/-! ### Changes -/
structure ChM where
  key : Blk
  val : Blk
  gone : Bool
def RisingC (l : List ChM) : Prop := l.Pairwise fun x y => klt x.key y.key = true
def chg (l : List ChM) (k : Blk) : Option ChM := l.find? (·.key == k)
theorem chg_cons (x : ChM) (l : List ChM) (k : Blk) : chg (x :: l) k = if x.key = k then some x else chg l k := by
  unfold chg
  rw [List.find?_cons]
  by_cases h : x.key = k
  · simp [h]
  · simp [h, beq_eq_false_iff_ne.2 h]
theorem chg_low {l : List ChM} {k : Blk} (h : ∀ y ∈ l, klt k y.key = true) : chg l k = none := by
  induction l with
  | nil => rfl
  | cons x t ih =>
    rw [chg_cons, if_neg (fun e => klt_ne (h x (by simp)) e.symm)]
    exact ih fun y hy => h y (by simp [hy])
/-- What changes leave of a key. -/
def chV (l : List ChM) (k : Blk) (o : Option Blk) : Option Blk := match chg l k with | some c => if c.gone then none else some c.val | none => o
theorem chV_cons (y : ChM) (l : List ChM) (k : Blk) (o : Option Blk) : chV (y :: l) k o = if y.key = k then (if y.gone then none else some y.val) else chV l k o := by
  unfold chV
  rw [chg_cons]
  by_cases h : y.key = k <;> simp [h]
theorem chV_low {l : List ChM} {k : Blk} (h : ∀ y ∈ l, klt k y.key = true) (o : Option Blk) : chV l k o = o := by
  unfold chV
  rw [chg_low h]
/-- A table behind changes. -/
def applyM : Tab → List ChM → Tab
  | [], [] => []
  | x :: t, [] => x :: t
  | [], y :: l => if y.gone then applyM [] l else (y.key, y.val) :: applyM [] l
  | x :: t, y :: l =>
    if klt x.1 y.key then x :: applyM t (y :: l)
    else if x.1 = y.key then (if y.gone then applyM t l else (y.key, y.val) :: applyM t l)
    else if y.gone then applyM (x :: t) l else (y.key, y.val) :: applyM (x :: t) l
termination_by t l => t.length + l.length
/-- What makes a table another one. -/
def betweenM : Tab → Tab → List ChM
  | [], [] => []
  | x :: a, [] => ⟨x.1, [], true⟩ :: betweenM a []
  | [], y :: b => ⟨y.1, y.2, false⟩ :: betweenM [] b
  | x :: a, y :: b =>
    if klt x.1 y.1 then ⟨x.1, [], true⟩ :: betweenM a (y :: b)
    else if x.1 = y.1 then (if x.2 = y.2 then betweenM a b else ⟨y.1, y.2, false⟩ :: betweenM a b)
    else ⟨y.1, y.2, false⟩ :: betweenM (x :: a) b
termination_by a b => a.length + b.length
theorem apply_low {k : Blk} : ∀ (t : Tab) (l : List ChM), (∀ y ∈ t, klt k y.1 = true) → (∀ y ∈ l, klt k y.key = true) → ∀ y ∈ applyM t l, klt k y.1 = true := by
  intro t l
  fun_induction applyM t l with
  | case1 => intro _ _ z hz; cases hz
  | case2 x t => intro h1 _; exact h1
  | case3 y l hg ih => intro h1 h2; exact ih h1 fun z hz => h2 z (by simp [hz])
  | case4 y l hg ih =>
    intro h1 h2 z hz
    rcases List.mem_cons.1 hz with rfl | hz
    · exact h2 y (by simp)
    · exact ih h1 (fun z hz => h2 z (by simp [hz])) z hz
  | case5 x t y l hlt ih =>
    intro h1 h2 z hz
    rcases List.mem_cons.1 hz with rfl | hz
    · exact h1 _ (by simp)
    · exact ih (fun z hz => h1 z (by simp [hz])) h2 z hz
  | case6 x t y l hlt he hg ih => intro h1 h2; exact ih (fun z hz => h1 z (by simp [hz])) fun z hz => h2 z (by simp [hz])
  | case7 x t y l hlt he hg ih =>
    intro h1 h2 z hz
    rcases List.mem_cons.1 hz with rfl | hz
    · exact h2 y (by simp)
    · exact ih (fun z hz => h1 z (by simp [hz])) (fun z hz => h2 z (by simp [hz])) z hz
  | case8 x t y l hlt he hg ih => intro h1 h2; exact ih h1 fun z hz => h2 z (by simp [hz])
  | case9 x t y l hlt he hg ih =>
    intro h1 h2 z hz
    rcases List.mem_cons.1 hz with rfl | hz
    · exact h2 y (by simp)
    · exact ih h1 (fun z hz => h2 z (by simp [hz])) z hz
theorem apply_rising : ∀ (t : Tab) (l : List ChM), Rising t → RisingC l → Rising (applyM t l) := by
  intro t l
  fun_induction applyM t l with
  | case1 => intro _ _; exact .nil
  | case2 x t => intro h _; exact h
  | case3 y l hg ih => intro h k; exact ih h (List.pairwise_cons.1 k).2
  | case4 y l hg ih =>
    intro h k
    have k' := List.pairwise_cons.1 k
    exact List.pairwise_cons.2 ⟨apply_low _ _ (by simp) k'.1, ih h k'.2⟩
  | case5 x t y l hlt ih =>
    intro h k
    have h' := List.pairwise_cons.1 h
    have k' := List.pairwise_cons.1 k
    refine List.pairwise_cons.2 ⟨apply_low _ _ h'.1 (fun z hz => ?_), ih h'.2 k⟩
    rcases List.mem_cons.1 hz with rfl | hz
    · exact hlt
    · exact klt_tr hlt (k'.1 z hz)
  | case6 x t y l hlt he hg ih => intro h k; exact ih (List.pairwise_cons.1 h).2 (List.pairwise_cons.1 k).2
  | case7 x t y l hlt he hg ih =>
    intro h k
    have h' := List.pairwise_cons.1 h
    have k' := List.pairwise_cons.1 k
    exact List.pairwise_cons.2 ⟨apply_low _ _ (by rw [← he]; exact h'.1) k'.1, ih h'.2 k'.2⟩
  | case8 x t y l hlt he hg ih => intro h k; exact ih h (List.pairwise_cons.1 k).2
  | case9 x t y l hlt he hg ih =>
    intro h k
    have h' := List.pairwise_cons.1 h
    have k' := List.pairwise_cons.1 k
    have hyx : klt y.key x.1 = true := by rcases klt_tri x.1 y.key with q | q | q <;> first | exact absurd q hlt | exact absurd q he | exact q
    refine List.pairwise_cons.2 ⟨apply_low _ _ (fun z hz => ?_) k'.1, ih h k'.2⟩
    rcases List.mem_cons.1 hz with rfl | hz
    · exact hyx
    · exact klt_tr hyx (h'.1 z hz)
theorem val_apply (k : Blk) : ∀ (t : Tab) (l : List ChM), Rising t → RisingC l → val (applyM t l) k = chV l k (val t k) := by
  intro t l
  fun_induction applyM t l with
  | case1 => intro _ _; rfl
  | case2 x t => intro _ _; rfl
  | case3 y l hg ih =>
    intro h q
    have q' := List.pairwise_cons.1 q
    rw [ih h q'.2, chV_cons]
    split
    · rename_i e; subst e; rw [chV_low q'.1]; simp [hg, val_nil]
    · rfl
  | case4 y l hg ih =>
    intro h q
    have q' := List.pairwise_cons.1 q
    rw [val_cons, ih h q'.2, chV_cons]
    split
    · simp [hg]
    · rfl
  | case5 x t y l hlt ih =>
    intro h q
    have h' := List.pairwise_cons.1 h
    have q' := List.pairwise_cons.1 q
    rw [val_cons, ih h'.2 q, val_cons]
    split
    · rename_i e; subst e
      rw [chV_low fun z hz => by
        rcases List.mem_cons.1 hz with rfl | hz
        · exact hlt
        · exact klt_tr hlt (q'.1 z hz)]
    · rfl
  | case6 x t y l hlt he hg ih =>
    intro h q
    have h' := List.pairwise_cons.1 h
    have q' := List.pairwise_cons.1 q
    rw [ih h'.2 q'.2, val_cons, chV_cons, he]
    split
    · rename_i e; subst e; rw [chV_low q'.1, ← he]; simp [hg, val_low h'.1]
    · rfl
  | case7 x t y l hlt he hg ih =>
    intro h q
    have h' := List.pairwise_cons.1 h
    have q' := List.pairwise_cons.1 q
    rw [val_cons, ih h'.2 q'.2, val_cons, chV_cons, he]
    split
    · simp [hg]
    · rfl
  | case8 x t y l hlt he hg ih =>
    intro h q
    have h' := List.pairwise_cons.1 h
    have q' := List.pairwise_cons.1 q
    have hyx : klt y.key x.1 = true := by rcases klt_tri x.1 y.key with q | q | q <;> first | exact absurd q hlt | exact absurd q he | exact q
    rw [ih h q'.2, chV_cons]
    split
    · rename_i e; subst e
      rw [chV_low q'.1]
      exact val_low fun z hz => by
        rcases List.mem_cons.1 hz with rfl | hz
        · exact hyx
        · exact klt_tr hyx (h'.1 z hz)
    · rfl
  | case9 x t y l hlt he hg ih =>
    intro h q
    have q' := List.pairwise_cons.1 q
    rw [val_cons, ih h q'.2, chV_cons]
    split
    · simp [hg]
    · rfl
theorem between_low {k : Blk} : ∀ (a b : Tab), (∀ y ∈ a, klt k y.1 = true) → (∀ y ∈ b, klt k y.1 = true) → ∀ y ∈ betweenM a b, klt k y.key = true := by
  intro a b
  fun_induction betweenM a b with
  | case1 => intro _ _ z hz; cases hz
  | case2 x a ih =>
    intro h1 h2 z hz
    rcases List.mem_cons.1 hz with rfl | hz
    · exact h1 x (by simp)
    · exact ih (fun z hz => h1 z (by simp [hz])) h2 z hz
  | case3 y b ih =>
    intro h1 h2 z hz
    rcases List.mem_cons.1 hz with rfl | hz
    · exact h2 y (by simp)
    · exact ih h1 (fun z hz => h2 z (by simp [hz])) z hz
  | case4 x a y b hlt ih =>
    intro h1 h2 z hz
    rcases List.mem_cons.1 hz with rfl | hz
    · exact h1 x (by simp)
    · exact ih (fun z hz => h1 z (by simp [hz])) h2 z hz
  | case5 x a y b hlt he hv ih => intro h1 h2; exact ih (fun z hz => h1 z (by simp [hz])) fun z hz => h2 z (by simp [hz])
  | case6 x a y b hlt he hv ih =>
    intro h1 h2 z hz
    rcases List.mem_cons.1 hz with rfl | hz
    · exact h2 y (by simp)
    · exact ih (fun z hz => h1 z (by simp [hz])) (fun z hz => h2 z (by simp [hz])) z hz
  | case7 x a y b hlt he ih =>
    intro h1 h2 z hz
    rcases List.mem_cons.1 hz with rfl | hz
    · exact h2 y (by simp)
    · exact ih h1 (fun z hz => h2 z (by simp [hz])) z hz
theorem between_rising : ∀ (a b : Tab), Rising a → Rising b → RisingC (betweenM a b) := by
  intro a b
  fun_induction betweenM a b with
  | case1 => intro _ _; exact .nil
  | case2 x a ih => intro h k; have h' := List.pairwise_cons.1 h; exact List.pairwise_cons.2 ⟨between_low _ _ h'.1 (by simp), ih h'.2 k⟩
  | case3 y b ih => intro h k; have k' := List.pairwise_cons.1 k; exact List.pairwise_cons.2 ⟨between_low _ _ (by simp) k'.1, ih h k'.2⟩
  | case4 x a y b hlt ih =>
    intro h k
    have h' := List.pairwise_cons.1 h
    have k' := List.pairwise_cons.1 k
    refine List.pairwise_cons.2 ⟨between_low _ _ h'.1 (fun z hz => ?_), ih h'.2 k⟩
    rcases List.mem_cons.1 hz with rfl | hz
    · exact hlt
    · exact klt_tr hlt (k'.1 z hz)
  | case5 x a y b hlt he hv ih => intro h k; exact ih (List.pairwise_cons.1 h).2 (List.pairwise_cons.1 k).2
  | case6 x a y b hlt he hv ih =>
    intro h k
    have h' := List.pairwise_cons.1 h
    have k' := List.pairwise_cons.1 k
    exact List.pairwise_cons.2 ⟨between_low _ _ (by rw [← he]; exact h'.1) k'.1, ih h'.2 k'.2⟩
  | case7 x a y b hlt he ih =>
    intro h k
    have h' := List.pairwise_cons.1 h
    have k' := List.pairwise_cons.1 k
    have hyx : klt y.1 x.1 = true := by rcases klt_tri x.1 y.1 with q | q | q <;> first | exact absurd q hlt | exact absurd q he | exact q
    refine List.pairwise_cons.2 ⟨between_low _ _ (fun z hz => ?_) k'.1, ih h k'.2⟩
    rcases List.mem_cons.1 hz with rfl | hz
    · exact hyx
    · exact klt_tr hyx (h'.1 z hz)
/-- What is between two tables makes the first one the second one. -/
theorem apply_between : ∀ (a b : Tab), Rising a → Rising b → applyM a (betweenM a b) = b := by
  intro a b ra rb
  refine val_ext (apply_rising _ _ ra (between_rising _ _ ra rb)) rb fun k => ?_
  rw [val_apply k _ _ ra (between_rising _ _ ra rb)]
  revert ra rb
  fun_induction betweenM a b with
  | case1 => intro _ _; rfl
  | case2 x a ih =>
    intro h q
    have h' := List.pairwise_cons.1 h
    have := ih h'.2 q
    rw [chV_cons, val_cons]
    by_cases e : x.1 = k
    · simp [e, val_nil]
    · simpa [e] using this
  | case3 y b ih =>
    intro h q
    have q' := List.pairwise_cons.1 q
    have := ih h q'.2
    rw [chV_cons, val_cons]
    by_cases e : y.1 = k
    · simp [e]
    · simpa [e] using this
  | case4 x a y b hlt ih =>
    intro h q
    have h' := List.pairwise_cons.1 h
    have q' := List.pairwise_cons.1 q
    have := ih h'.2 q
    rw [chV_cons]
    by_cases e : x.1 = k
    · subst e
      simp only [if_true]
      exact (val_low fun z hz => by
        rcases List.mem_cons.1 hz with rfl | hz
        · exact hlt
        · exact klt_tr hlt (q'.1 z hz)).symm
    · rw [val_cons x, if_neg e, if_neg e]; exact this
  | case5 x a y b hlt he hv ih =>
    intro h q
    have h' := List.pairwise_cons.1 h
    have q' := List.pairwise_cons.1 q
    have := ih h'.2 q'.2
    rw [val_cons, val_cons, he, hv]
    split
    · rename_i e; subst e
      rw [chV_low (between_low _ _ (by rw [← he]; exact h'.1) q'.1)]
    · exact this
  | case6 x a y b hlt he hv ih =>
    intro h q
    have h' := List.pairwise_cons.1 h
    have q' := List.pairwise_cons.1 q
    have := ih h'.2 q'.2
    rw [chV_cons, val_cons y]
    by_cases e : y.1 = k
    · simp [e]
    · rw [val_cons, he, if_neg e, if_neg e, if_neg e]; exact this
  | case7 x a y b hlt he ih =>
    intro h q
    have q' := List.pairwise_cons.1 q
    have := ih h q'.2
    rw [chV_cons, val_cons y]
    by_cases e : y.1 = k
    · simp [e]
    · simpa [e] using this
/-- How many rows are unlike. -/
theorem length_between : ∀ (a b : Tab), Rising a → Rising b → (betweenM a b).length = (a.filter fun x => decide (val b x.1 ≠ some x.2)).length + (b.filter fun y => decide (val a y.1 = none)).length := by
  intro a b
  have off : ∀ (x : Blk × Blk) (a b : Tab), (∀ y ∈ b, x.1 ≠ y.1) → (b.filter fun y => decide (val (x :: a) y.1 = none)) = b.filter fun y => decide (val a y.1 = none) := fun x a b hn => by
    apply List.filter_congr
    intro y hy
    rw [val_cons, if_neg (hn y hy)]
  have off2 : ∀ (y : Blk × Blk) (a b : Tab), (∀ x ∈ a, y.1 ≠ x.1) → (a.filter fun x => decide (val (y :: b) x.1 ≠ some x.2)) = a.filter fun x => decide (val b x.1 ≠ some x.2) := fun y a b hn => by
    apply List.filter_congr
    intro x hx
    rw [val_cons, if_neg (hn x hx)]
  fun_induction betweenM a b with
  | case1 => intro _ _; rfl
  | case2 x a ih =>
    intro h q
    have := ih (List.pairwise_cons.1 h).2 q
    rw [List.filter_cons_of_pos (by simp [val_nil])]
    simp only [List.length_cons, List.filter_nil, List.length_nil] at this ⊢
    omega
  | case3 y b ih =>
    intro h q
    have := ih h (List.pairwise_cons.1 q).2
    rw [List.filter_cons_of_pos (l := b) (by simp [val_nil])]
    simp only [List.length_cons, List.filter_nil, List.length_nil] at this ⊢
    omega
  | case4 x a y b hlt ih =>
    intro h q
    have h' := List.pairwise_cons.1 h
    have q' := List.pairwise_cons.1 q
    have hlow : ∀ z ∈ y :: b, klt x.1 z.1 = true := fun z hz => by
      rcases List.mem_cons.1 hz with rfl | hz
      · exact hlt
      · exact klt_tr hlt (q'.1 z hz)
    have := ih h'.2 q
    rw [List.filter_cons_of_pos (l := a) (by simp [val_low hlow]), off x a (y :: b) (fun z hz => klt_ne (hlow z hz))]
    simp only [List.length_cons] at this ⊢
    omega
  | case5 x a y b hlt he hv ih =>
    intro h q
    have h' := List.pairwise_cons.1 h
    have q' := List.pairwise_cons.1 q
    have := ih h'.2 q'.2
    rw [List.filter_cons_of_neg (l := a) (by simp [val_cons, he, hv]), List.filter_cons_of_neg (l := b) (by simp [val_cons, he]), off x a b (fun z hz => by rw [he]; exact klt_ne (q'.1 z hz)), off2 y a b (fun z hz => by rw [← he]; exact klt_ne (h'.1 z hz))]
    exact this
  | case6 x a y b hlt he hv ih =>
    intro h q
    have h' := List.pairwise_cons.1 h
    have q' := List.pairwise_cons.1 q
    have := ih h'.2 q'.2
    rw [List.filter_cons_of_pos (l := a) (by simp [val_cons, he]; exact fun e => hv e.symm), List.filter_cons_of_neg (l := b) (by simp [val_cons, he]), off x a b (fun z hz => by rw [he]; exact klt_ne (q'.1 z hz)), off2 y a b (fun z hz => by rw [← he]; exact klt_ne (h'.1 z hz))]
    simp only [List.length_cons] at this ⊢
    omega
  | case7 x a y b hlt he ih =>
    intro h q
    have h' := List.pairwise_cons.1 h
    have q' := List.pairwise_cons.1 q
    have hyx : klt y.1 x.1 = true := by rcases klt_tri x.1 y.1 with q | q | q <;> first | exact absurd q hlt | exact absurd q he | exact q
    have hlow : ∀ z ∈ x :: a, klt y.1 z.1 = true := fun z hz => by
      rcases List.mem_cons.1 hz with rfl | hz
      · exact hyx
      · exact klt_tr hyx (h'.1 z hz)
    have := ih h q'.2
    rw [List.filter_cons_of_pos (l := b) (by simp [val_low hlow]), off2 y (x :: a) b (fun z hz => klt_ne (hlow z hz))]
    simp only [List.length_cons] at this ⊢
    omega
theorem apply_whole (b : Tab) (rb : Rising b) : applyM [] (betweenM [] b) = b := apply_between [] b .nil rb
end Go.Cx
namespace Go.Cx
/-! ### Batches -/
def rowB (b : Blk) : Blk := le 4 b.length ++ b
def chB (c : ChM) : Blk := rowB c.key ++ (if c.gone then [1] else 0 :: rowB c.val)
def putB (l : List ChM) : Blk := le 4 l.length ++ (l.map chB).flatten
structure ChM.ok (c : ChM) : Prop where
  k1 : 1 ≤ c.key.length
  k2 : c.key.length ≤ 16
  v : c.val.length ≤ 1048576
  g : c.gone = true → c.val = []
def MayC (l : List ChM) : Prop := RisingC l ∧ ∀ c ∈ l, c.ok
def rowAt (b : Blk) (at_ most : Nat) : Blk × Nat × Int :=
  if b.length < at_ then ([], 0, 2) else if b.length - at_ < 4 then ([], 0, 4)
  else if most < ofLe ((b.drop at_).take 4) then ([], 0, 3)
  else if b.length - (at_ + 4) < ofLe ((b.drop at_).take 4) then ([], 0, 4)
  else ((b.drop (at_ + 4)).take (ofLe ((b.drop at_).take 4)), at_ + 4 + ofLe ((b.drop at_).take 4), 0)
theorem rowAt_print {b r rest : Blk} {at_ most : Nat} (h0 : at_ ≤ b.length) (h : b.drop at_ = rowB r ++ rest) (hm : r.length ≤ most) (h4 : r.length < 4294967296) : rowAt b at_ most = (r, at_ + 4 + r.length, 0) := by
  have hl : b.length - at_ = 4 + r.length + rest.length := by
    have := congrArg List.length h
    simp [rowB] at this; omega
  have e : (b.drop at_).take 4 = le 4 r.length := by rw [h, rowB, List.append_assoc, List.take_append_of_le_length (by simp), List.take_of_length_le (by simp)]
  have e2 : b.drop (at_ + 4) = r ++ rest := by rw [← List.drop_drop, h, rowB, List.append_assoc, List.drop_append]; simp
  unfold rowAt
  rw [e, ofLe_le 4 _ h4, if_neg (by omega), if_neg (by omega), if_neg (by omega), if_neg (by omega), e2]
  simp
theorem rowAt_inv {b r : Blk} {at_ most nx : Nat} (h : rowAt b at_ most = (r, nx, 0)) : b.drop at_ = rowB r ++ b.drop nx ∧ nx = at_ + 4 + r.length ∧ nx ≤ b.length ∧ r.length ≤ most ∧ at_ ≤ b.length := by
  unfold rowAt at h
  split at h
  · simp at h
  split at h
  · simp at h
  split at h
  · simp at h
  split at h
  · simp at h
  rename_i h1 h2 h3 h4
  simp only [Prod.mk.injEq, and_true] at h
  obtain ⟨rfl, rfl⟩ := h
  have hl : ((b.drop (at_ + 4)).take (ofLe ((b.drop at_).take 4))).length = ofLe ((b.drop at_).take 4) := by simp; omega
  have f : le 4 (ofLe ((b.drop at_).take 4)) = (b.drop at_).take 4 := by
    have := le_ofLe ((b.drop at_).take 4)
    rwa [show ((b.drop at_).take 4).length = 4 by simp; omega] at this
  refine ⟨?_, by rw [hl], by omega, by rw [hl]; omega, by omega⟩
  rw [rowB, hl, f, List.append_assoc, ← List.drop_drop (i := ofLe _), List.take_append_drop, ← List.drop_drop, List.take_append_drop]
def oneB (b : Blk) (at_ : Nat) : ChM × Nat × Int :=
  if (rowAt b at_ 16).2.2 ≠ 0 then (⟨[], [], false⟩, 0, (rowAt b at_ 16).2.2)
  else if (rowAt b at_ 16).2.1 = b.length then (⟨[], [], false⟩, 0, 4)
  else match b.getD (rowAt b at_ 16).2.1 0 with
    | 1 => (⟨(rowAt b at_ 16).1, [], true⟩, (rowAt b at_ 16).2.1 + 1, 0)
    | 0 => (⟨(rowAt b at_ 16).1, (rowAt b ((rowAt b at_ 16).2.1 + 1) 1048576).1, false⟩, (rowAt b ((rowAt b at_ 16).2.1 + 1) 1048576).2)
    | _ => (⟨(rowAt b at_ 16).1, [], false⟩, 0, 5)
theorem chB_len (c : ChM) (h : c.ok) : (chB c).length = 4 + c.key.length + (if c.gone then 1 else 5 + c.val.length) := by
  unfold chB; split <;> simp [rowB] <;> omega
theorem one_print {b rest : Blk} {c : ChM} {at_ : Nat} (h0 : at_ ≤ b.length) (h : b.drop at_ = chB c ++ rest) (o : c.ok) : oneB b at_ = (c, at_ + (chB c).length, 0) := by
  have h1 := o.k2
  have h2 := o.v
  have hr : rowAt b at_ 16 = (c.key, at_ + 4 + c.key.length, 0) := rowAt_print h0 (by rw [h, chB, List.append_assoc]) h1 (by omega)
  have hl : b.length - at_ = (chB c).length + rest.length := by
    have := congrArg List.length h
    simp at this; omega
  have hc := chB_len c o
  have hd : b.drop (at_ + 4 + c.key.length) = (if c.gone then [1] else 0 :: rowB c.val) ++ rest := by
    rw [show at_ + 4 + c.key.length = at_ + (rowB c.key).length by simp [rowB]; omega, ← List.drop_drop, h, chB, List.append_assoc, List.drop_append]; simp
  unfold oneB
  rw [hr]
  dsimp only
  rw [if_neg (by simp), if_neg (by split at hc <;> omega)]
  have hg : b.getD (at_ + 4 + c.key.length) 0 = ((if c.gone then [1] else 0 :: rowB c.val) ++ rest).getD 0 0 := by
    rw [← hd]; simp [List.getD_eq_getElem?_getD]
  obtain ⟨key, v, gone⟩ := c
  dsimp only at *
  cases gone with
  | true =>
    have e : v = [] := o.g rfl
    
    simp only [if_true, List.cons_append, List.nil_append, List.getD_cons_zero] at hg hc
    rw [hg]
    subst e
    simp [hc]; omega
  | false =>
    simp only [if_false, Bool.false_eq_true, List.cons_append, List.getD_cons_zero] at hg hc hd
    rw [hg]
    have hd2 : b.drop (at_ + 4 + key.length + 1) = rowB v ++ rest := by rw [← List.drop_drop, hd]; rfl
    have hs := rowAt_print (b := b) (r := v) (rest := rest) (at_ := at_ + 4 + key.length + 1) (most := 1048576) (by omega) hd2 h2 (by omega)
    simp [hs, hc]; omega
theorem one_inv {b : Blk} {c : ChM} {at_ nx : Nat} (h : oneB b at_ = (c, nx, 0)) (hk : c.key ≠ []) : b.drop at_ = chB c ++ b.drop nx ∧ nx ≤ b.length ∧ c.ok ∧ at_ ≤ b.length ∧ at_ < nx := by
  unfold oneB at h
  split at h
  · rename_i hc; simp at h; omega
  rename_i hc
  split at h
  · simp at h
  rename_i hn
  rcases hr : rowAt b at_ 16 with ⟨r, nr, er⟩
  rw [hr] at h hc hn
  dsimp only at h hc hn
  obtain rfl : er = 0 := Decidable.byContradiction hc
  obtain ⟨q1, q2, q3, q4, q5⟩ := rowAt_inv hr
  have hd : b.drop nr = b.getD nr 0 :: b.drop (nr + 1) := by
    rw [List.drop_eq_getElem_cons (by omega)]; simp [List.getD_eq_getElem?_getD, show nr < b.length by omega]
  have hk1 : r ≠ [] → 1 ≤ r.length := fun e => by cases r with | nil => exact absurd rfl e | cons => simp
  split at h
  · rename_i e1
    simp only [Prod.mk.injEq, and_true] at h
    obtain ⟨rfl, rfl⟩ := h
    refine ⟨?_, by omega, ⟨hk1 hk, q4, by simp, by simp⟩, q5, by omega⟩
    rw [q1, hd, e1, chB]; simp
  · rename_i e1
    simp only [Prod.mk.injEq] at h
    obtain ⟨rfl, h⟩ := h
    rcases hs : rowAt b (nr + 1) 1048576 with ⟨s, ns, es⟩
    rw [hs] at h
    dsimp only at hk ⊢
    obtain ⟨rfl, rfl⟩ := Prod.mk.inj h
    obtain ⟨p1, p2, p3, p4, p5⟩ := rowAt_inv hs
    refine ⟨?_, p3, ⟨hk1 hk, q4, p4, by simp⟩, q5, by omega⟩
    rw [q1, hd, e1, p1, chB]; simp
  · simp at h
theorem rising_snoc {l : List ChM} {x : ChM} (h : RisingC l) (k : ∀ y, l.getLast? = some y → klt y.key x.key = true) : RisingC (l ++ [x]) := by
  unfold RisingC at *
  rw [List.pairwise_append]
  refine ⟨h, by simp, fun y hy z hz => ?_⟩
  obtain rfl : z = x := by simpa using hz
  rcases List.eq_nil_or_concat l with rfl | ⟨m, w, rfl⟩
  · cases hy
  · rw [List.concat_eq_append] at *
    have hw := k w (by simp)
    rcases List.mem_append.1 hy with hy | hy
    · exact klt_tr ((List.pairwise_append.1 h).2.2 y hy w (by simp)) hw
    · obtain rfl : y = w := by simpa using hy
      exact hw
/-- Does a change fit behind others? -/
def fits (l : List ChM) (x : ChM) : Bool := (match l.getLast? with | some y => klt y.key x.key | none => true) && !x.key.isEmpty
def loopB (b : Blk) : Nat → List ChM → Nat → List ChM × Int
  | 0, l, at_ => if at_ ≠ b.length then ([], 5) else (l, 0)
  | k + 1, l, at_ =>
    if (oneB b at_).2.2 ≠ 0 then ([], (oneB b at_).2.2)
    else if fits l (oneB b at_).1 = false then ([], 5)
    else loopB b k (l ++ [(oneB b at_).1]) (oneB b at_).2.1
def getB (b : Blk) : List ChM × Int := if b.length < 4 then ([], 4) else loopB b (ofLe (b.take 4)) [] 4
theorem fits_iff {l : List ChM} {x : ChM} : fits l x = true ↔ (∀ y, l.getLast? = some y → klt y.key x.key = true) ∧ x.key ≠ [] := by
  unfold fits
  cases h : l.getLast? <;> simp
theorem loop_print {b : Blk} : ∀ (m l : List ChM) (at_ : Nat), at_ ≤ b.length → b.drop at_ = (m.map chB).flatten → RisingC (l ++ m) → (∀ c ∈ m, c.ok) → loopB b m.length l at_ = (l ++ m, 0) := by
  intro m
  induction m with
  | nil =>
    intro l at_ h0 h _ _
    have : at_ = b.length := by
      have := congrArg List.length h
      simp at this; omega
    simp [loopB, this]
  | cons x m ih =>
    intro l at_ h0 h hr ho
    have o := ho x (by simp)
    have h1 : b.drop at_ = chB x ++ (m.map chB).flatten := by simpa using h
    have hp := one_print h0 h1 o
    have hl : b.length - at_ = (chB x).length + ((m.map chB).flatten).length := by
      have := congrArg List.length h1
      simp at this ⊢; omega
    have hf : fits l x = true := fits_iff.2 ⟨fun y hy => (List.pairwise_append.1 hr).2.2 y (List.mem_of_getLast? hy) x (by simp), fun e => by have := o.k1; rw [e] at this; simp at this⟩
    simp only [List.length_cons, loopB]
    rw [hp]
    dsimp only
    rw [if_neg (by simp), if_neg (by simp [hf]), ih (l ++ [x]) _ (by omega) (by rw [← List.drop_drop, h1, List.drop_append]; simp) (by simpa using hr) (fun c hc => ho c (by simp [hc]))]
    simp
theorem loop_inv {b : Blk} : ∀ (k : Nat) (l : List ChM) (at_ : Nat) (r : List ChM), loopB b k l at_ = (r, 0) → at_ ≤ b.length → RisingC l → (∀ c ∈ l, c.ok) → ∃ m, r = l ++ m ∧ m.length = k ∧ b.drop at_ = (m.map chB).flatten ∧ MayC r := by
  intro k
  induction k with
  | zero =>
    intro l at_ r h h0 hr ho
    simp only [loopB] at h
    split at h
    · simp at h
    rename_i hc
    simp only [Prod.mk.injEq, and_true] at h
    subst h
    exact ⟨[], by simp, rfl, by simp [show at_ = b.length by omega], hr, ho⟩
  | succ k ih =>
    intro l at_ r h h0 hr ho
    simp only [loopB] at h
    split at h
    · rename_i hc; simp at h; omega
    rename_i hc
    split at h
    · simp at h
    rename_i hf
    have hf' : fits l (oneB b at_).1 = true := by simpa using hf
    rcases hx : oneB b at_ with ⟨x, nx, e⟩
    rw [hx] at h hc hf'
    dsimp only at h hc hf'
    obtain rfl : e = 0 := Decidable.byContradiction hc
    have f := fits_iff.1 hf'
    obtain ⟨q1, q2, q3, q4, q5⟩ := one_inv hx f.2
    obtain ⟨m, rfl, h2, h3, h4⟩ := ih (l ++ [x]) nx r h q2 (rising_snoc hr f.1) (fun c hc => by
      rcases List.mem_append.1 hc with hc | hc
      · exact ho c hc
      · obtain rfl : c = x := by simpa using hc
        exact q3)
    exact ⟨x :: m, by simp, by simp [h2], by rw [q1, h3]; simp, by simpa using h4⟩
theorem get_putB {l : List ChM} (h : MayC l) (hl : l.length < 4294967296) : getB (putB l) = (l, 0) := by
  have e : (putB l).take 4 = le 4 l.length := by rw [putB, List.take_append_of_le_length (by simp), List.take_of_length_le (by simp)]
  unfold getB
  rw [if_neg (by simp [putB]), e, ofLe_le 4 _ hl]
  have := loop_print (b := putB l) l [] 4 (by simp [putB]) (by simp [putB]) (by simpa using h.1) h.2
  simpa using this
theorem put_getB {b : Blk} {l : List ChM} (h : getB b = (l, 0)) : MayC l ∧ putB l = b ∧ l.length < 4294967296 := by
  unfold getB at h
  split at h
  · simp at h
  rename_i h4
  obtain ⟨m, rfl, h2, h3, h5⟩ := loop_inv _ [] 4 l h (by omega) .nil (by simp)
  have f : le 4 (ofLe (b.take 4)) = b.take 4 := by
    have := le_ofLe (b.take 4)
    rwa [show (b.take 4).length = 4 by simp; omega] at this
  have hlt := ofLe_lt (b.take 4)
  rw [show (b.take 4).length = 4 by simp; omega] at hlt
  refine ⟨h5, ?_, by omega⟩
  rw [putB, h2, f, ← h3, List.take_append_drop]
end Go.Cx
