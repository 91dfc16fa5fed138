/- Rules whose small premises prove themselves. -/
import Derived.Test.YtlckhaodecdbbaaCf
set_option linter.unusedVariables false
set_option linter.unusedSimpArgs false
namespace Go.Cx
/-- What an operation yields that only reckons. -/
def pv (n : Nat) (env : Env) : Op → Option Value
  | .move x => ev n env x
  | .assign x => ev n env x
  | .extract x i => match ev n env x with | some (.tuple vs) => vs[i]? | _ => none
  | .nilCheck x => match ev n env x with | some (.pointer (some a)) => some (.pointer (some a)) | _ => none
  | .pick c x y => match ev n env c with | some (.bool true) => ev n env x | some (.bool false) => ev n env y | _ => none
  | .unOp .not _ x => match ev n env x with | some (.bool b) => some (.bool (!b)) | _ => none
  | _ => none
def cv (n : Nat) (env : Env) (o : BinOp) (x y : Operand) : Option Value :=
  match ev n env x, ev n env y with
  | some (.int k p), some (.int k' q) => if k = k' then
      (match o with
      | .lss => some (.bool (decide (p < q)))
      | .leq => some (.bool (decide (p ≤ q)))
      | .gtr => some (.bool (decide (q < p)))
      | .geq => some (.bool (decide (q ≤ p)))
      | .eql => some (.bool (decide (p = q)))
      | .neq => some (.bool (decide (p ≠ q)))
      | _ => none) else none
  | _, _ => none
def av (n : Nat) (env : Env) (o : BinOp) (x y : Operand) : Option (IntKind × Int) :=
  match ev n env x, ev n env y with
  | some (.int k p), some (.int k' q) => if k = k' then
      (match o with
      | .add => some (k, p + q)
      | .sub => some (k, p - q)
      | .mul => some (k, p * q)
      | _ => none) else none
  | _, _ => none
def inR : IntKind → Int → Prop
  | .i64, z => -9223372036854775808 ≤ z ∧ z ≤ 9223372036854775807
  | .u64, z => 0 ≤ z ∧ z ≤ 18446744073709551615
  | .u32, z => 0 ≤ z ∧ z ≤ 4294967295
  | .u8, z => 0 ≤ z ∧ z ≤ 255
  | _, _ => False
theorem inR_wrap {k : IntKind} {z : Int} (h : inR k z) : k.wrap z = z := by
  cases k <;> simp only [inR] at h <;> first | exact wr_i64 h.1 h.2 | exact wr_u64 h.1 (by omega) | exact wr_u32 h.1 (by omega) | exact wr_u8 h.1 (by omega)
section
variable {P : Program} {ops : Array Oper} {Q : Exit → Act → World → Prop} {n : Nat} {e0 : World} {env : Env} {L L' : List Assn} {rest : List Oper} {K : Act → World → Prop}
variable {dst : Option Tmp} {ty : TypeId} {pos : String} {aft : Array Edge} {g : Option (Nat × Bool)} {op : Op}
theorem PS.auto {v : Value} (hg : gd ops n env g = some true) (h : pv n env op = some v) : PS P ops n env L ⟨dst, op, ty, pos, aft, g⟩ v := by
  unfold pv at h
  split at h
  · exact PS.move hg h
  · exact PS.assign hg h
  · split at h
    · exact PS.extract hg (by assumption) h
    · cases h
  · split at h
    · cases h; exact PS.nilCheck hg (by assumption)
    · cases h
  · split at h
    · exact PS.pickT hg (by assumption) h
    · exact PS.pickF hg (by assumption) h
    · cases h
  · split at h
    · cases h; exact PS.not hg (by assumption)
    · cases h
  · cases h
theorem PS.cmp {o : BinOp} {t u : TypeId} {x y : Operand} {v : Value} (hg : gd ops n env g = some true) (h : cv n env o x y = some v) : PS P ops n env L ⟨dst, .binOp o t x y u, ty, pos, aft, g⟩ v := by
  unfold cv at h
  split at h
  · rename_i k p k' q hx hy
    split at h
    · rename_i hk; subst hk
      split at h <;> first | (cases h; first | exact PS.lss hg hx hy | exact PS.leq hg hx hy | exact PS.gtr hg hx hy | exact PS.geq hg hx hy | exact PS.eql hg hx hy | exact PS.neq hg hx hy) | cases h
    · cases h
  · cases h
theorem PS.cmpT {o : BinOp} {t u : TypeId} {x y : Operand} {p : Prop} {_ : Decidable p} (hg : gd ops n env g = some true) (h : cv n env o x y = some (.bool (decide p))) (hp : p) : PS P ops n env L ⟨dst, .binOp o t x y u, ty, pos, aft, g⟩ (.bool true) := (PS.cmp hg h).toT hp
theorem PS.cmpF {o : BinOp} {t u : TypeId} {x y : Operand} {p : Prop} {_ : Decidable p} (hg : gd ops n env g = some true) (h : cv n env o x y = some (.bool (decide p))) (hp : ¬ p) : PS P ops n env L ⟨dst, .binOp o t x y u, ty, pos, aft, g⟩ (.bool false) := (PS.cmp hg h).toF hp
theorem PS.arith {o : BinOp} {t u : TypeId} {x y : Operand} {k : IntKind} {z : Int} (hg : gd ops n env g = some true) (h : av n env o x y = some (k, z)) (hr : inR k z) : PS P ops n env L ⟨dst, .binOp o t x y u, ty, pos, aft, g⟩ (.int k z) := by
  unfold av at h
  split at h
  · rename_i k1 p k' q hx hy
    split at h
    · rename_i hk; subst hk
      split at h <;> first | (cases h; first | exact PS.add hg hx hy (inR_wrap hr) | exact PS.sub hg hx hy (inR_wrap hr) | exact PS.mul hg hx hy (inR_wrap hr)) | cases h
    · cases h
  · cases h
theorem PS.convR {s t : TypeId} {k k' : IntKind} [I : IntT P s k] [J : IntT P t k'] {x : Operand} {p : Int} (hg : gd ops n env g = some true) (hx : ev n env x = some (.int k p)) (hr : inR k' p) :
    PS P ops n env L ⟨dst, .convert s t x, ty, pos, aft, g⟩ (.int k' p) := PS.convI hg hx (inR_wrap hr)

theorem CX.psA {v : Value} (h : CX P ops Q n e0 (putE env dst v) L rest) (hp : PS P ops n env L ⟨dst, op, ty, pos, aft, g⟩ v := by first | (apply PS.cmpT; (· rfl); (· rfl); (· first | assumption | omega | rfl | decide)) | (apply PS.cmpF; (· rfl); (· rfl); (· first | assumption | omega | rfl | decide)) | (apply PS.cmp <;> rfl) | (apply PS.notD <;> rfl) | (apply PS.auto <;> rfl) | (apply PS.fieldAddr <;> rfl) | (apply PS.load; (· rfl); (· rfl); (· apply CellAt.pick; (· repeat (first | exact .head _ | apply Pick.tail | apply Upd.tail)); (· rfl))) | (apply PS.arith; (· rfl); (· rfl); (· simp only [inR]; omega)) | (apply PS.convR; (· rfl); (· rfl); (· simp only [inR]; omega)) | (apply PS.lenSl <;> rfl) | (apply PS.capSl <;> rfl) | (apply PS.maxI <;> rfl) | (apply PS.minI <;> rfl) | (apply PS.eqlPtrNil <;> rfl) | (apply PS.neqPtrNil <;> rfl) | (apply PS.eqlSlNil <;> rfl) | (apply PS.makeFunc <;> rfl) | (apply PS.fieldS <;> rfl)) : CX P ops Q n e0 env L (⟨dst, op, ty, pos, aft, g⟩ :: rest) := CX.ps hp h
theorem CX.skipA (h : CX P ops Q n e0 (putE env dst undef) L rest) (hg : gd ops n env g = some false := by rfl) : CX P ops Q n e0 env L (⟨dst, op, ty, pos, aft, g⟩ :: rest) := CX.skip hg h
theorem CX.storeA {t : Nat} [Z : SzT P t 1] {x y : Operand} {b o bt : Nat} {cs : List Value} {v : Value} (h : CX P ops Q n e0 (putE env dst undef) L' rest) (hg : gd ops n env g = some true := by rfl) (hx : ev n env x = some (.pointer (some ⟨b, o, none⟩)) := by rfl)
    (hy : ev n env y = some v := by rfl) (hv : v.oneCell' = true := by rfl) (hu : Upd (bk b bt cs) (bk b bt (cs.set o v)) L L' := by repeat (first | exact .head _ | apply Pick.tail | apply Upd.tail)) (hl : Nat.blt o cs.length = true := by rfl) :
    CX P ops Q n e0 env L (⟨dst, .store t x y, ty, pos, aft, g⟩ :: rest) := CX.store hg hx hy hv hu hl h
theorem CC.condTA {c : Operand} {x y : Code} (h : CC P x Q n e0 env L) (hc : ev n env c = some (.bool true) := by rfl) : CC P (.cond c x y) Q n e0 env L := CC.condT hc h
theorem CC.condFA {c : Operand} {x y : Code} (h : CC P y Q n e0 env L) (hc : ev n env c = some (.bool false) := by rfl) : CC P (.cond c x y) Q n e0 env L := CC.condF hc h
theorem CC.condDTA {c : Operand} {x y : Code} {p : Prop} {_ : Decidable p} (h : CC P x Q n e0 env L) (hc : ev n env c = some (.bool (decide p)) := by rfl) (hp : p := by first | assumption | omega) : CC P (.cond c x y) Q n e0 env L := CC.condDT hc hp h
theorem CC.condDFA {c : Operand} {x y : Code} {p : Prop} {_ : Decidable p} (h : CC P y Q n e0 env L) (hc : ev n env c = some (.bool (decide p)) := by rfl) (hp : ¬ p := by first | assumption | omega) : CC P (.cond c x y) Q n e0 env L := CC.condDF hc hp h
theorem CQ.blockYA {id id' : Nat} (h : CQ (Q (.exit id')) n e0 env L) (hne : Nat.beq id' id = false := by rfl) : CQ (Exit.inBlock id Q (.exit id')) n e0 env L := CQ.blockY hne h
theorem CX.callA {f : FuncId} [F : HasFn P f] {xs : List Operand} {tys : Array TypeId} {args : List Value} {H : List Assn} {pre : PH → Prop} {post : Value → List Assn → Prop} (S : Ctr P f args H pre post)
    (h : ∀ v M, post v M → CX P ops Q n e0 (putE env dst v) (M ++ L') rest) (hg : gd ops n env g = some true := by rfl) (hx : evs n env xs = some args := by rfl) (hsel : Sel L H L' := by repeat (first | exact Sel.nil _ | (apply Sel.cons; (· repeat (first | exact .head _ | apply Pick.tail | apply Upd.tail))))) (hpre : ∀ x, Sep L' x → pre x := by exact fun _ _ => trivial) :
    CX P ops Q n e0 env L (⟨dst, .call ⟨.value (.func f), xs.toArray, tys⟩, ty, pos, aft, g⟩ :: rest) := CX.call hg hx S hsel hpre h
theorem CX.allocA {t : Nat} {v : Value} [Z : ZeroA P t v] (h : ∀ b, CX P ops Q n e0 (putE env dst (.pointer (some ⟨b, 0, none⟩))) (bk b t v.cells.toList :: L) rest) (hg : gd ops n env g = some true := by rfl) : CX P ops Q n e0 env L (⟨dst, .alloc t, ty, pos, aft, g⟩ :: rest) := CX.alloc hg h
theorem CX.allocZ {t : Nat} {v : Value} [Z : ZeroA P t v] (cs : List Value) (h : ∀ b, CX P ops Q n e0 (putE env dst (.pointer (some ⟨b, 0, none⟩))) (bk b t cs :: L) rest) (hv : v.cells.toList = cs := by simp [cb_z, Value.cells]) (hg : gd ops n env g = some true := by rfl) :
    CX P ops Q n e0 env L (⟨dst, .alloc t, ty, pos, aft, g⟩ :: rest) := CX.allocAs cs hv hg h
theorem CX.boxA {t : Nat} {x : Operand} {vs : List Value} (h : ∀ b, CX P ops Q n e0 (putE env dst (.pointer (some ⟨b, 0, none⟩))) (bk b t vs :: L) rest) (hg : gd ops n env g = some true := by rfl) (hx : ev n env x = some (.agg vs.toArray) := by rfl) :
    CX P ops Q n e0 env L (⟨dst, .box t x, ty, pos, aft, g⟩ :: rest) := CX.boxG hg hx h
theorem CX.loadA {t : Nat} [S : TyS P t] {x : Operand} {b o : Nat} (v : Value) (hc : CellAt L b o v) (h : CX P ops Q n e0 (putE env dst v) L rest) (hg : gd ops n env g = some true := by rfl) (hx : ev n env x = some (.pointer (some ⟨b, o, none⟩)) := by rfl) :
    CX P ops Q n e0 env L (⟨dst, .load t x, ty, pos, aft, g⟩ :: rest) := CX.ps (PS.load hg hx hc) h
theorem CX.loadGA {t sz : Nat} [G : TyG P t sz] {x : Operand} {b o : Nat} (vs : List Value) (hc : CellsAt L b o vs) (hl : vs.length = sz) (h : CX P ops Q n e0 (putE env dst (.agg vs.toArray)) L rest) (hg : gd ops n env g = some true := by rfl) (hx : ev n env x = some (.pointer (some ⟨b, o, none⟩)) := by rfl) :
    CX P ops Q n e0 env L (⟨dst, .load t x, ty, pos, aft, g⟩ :: rest) := CX.ps (PS.loadG hg hx hc hl) h
theorem CX.storeB {t sz : Nat} [Z : SzT P t sz] {x y : Operand} {b bt : Nat} {cs vs : List Value} (hv : vs.length = sz) (hc : cs.length = sz) (ho : ∀ u ∈ vs, u.oneCell' = true) (h : CX P ops Q n e0 (putE env dst undef) L' rest)
    (hg : gd ops n env g = some true := by rfl) (hx : ev n env x = some (.pointer (some ⟨b, 0, none⟩)) := by rfl) (hy : ev n env y = some (.agg vs.toArray) := by rfl) (hu : Upd (bk b bt cs) (bk b bt vs) L L' := by repeat (first | exact .head _ | apply Pick.tail | apply Upd.tail)) :
    CX P ops Q n e0 env L (⟨dst, .store t x y, ty, pos, aft, g⟩ :: rest) := CX.storeAll hg hx hy hu hv hc ho h
theorem CX.indexA {t e sz : Nat} [E : ElemA P t e sz] {x y : Operand} {b o len cap : Nat} (j : Nat) {k : IntKind} {i : Int} (hl : j < len) (h : CX P ops Q n e0 (putE env dst (.pointer (some ⟨b, o + j * sz, none⟩))) L rest)
    (hg : gd ops n env g = some true := by rfl) (hx : ev n env x = some (.slice (some ⟨b, o, none⟩) len cap) := by rfl) (hy : ev n env y = some (.int k i) := by rfl) (hi : i = (j : Int) := by first | rfl | omega) :
    CX P ops Q n e0 env L (⟨dst, .indexAddr t x y, ty, pos, aft, g⟩ :: rest) := CX.ps (PS.indexAddr hg hx hy hi hl) h
theorem CX.indexOA {t e sz : Nat} [E : ElemA P t e sz] {x y : Operand} {a : Option Addr} {len cap : Nat} (j : Nat) {k : IntKind} {i : Int} {xs : List Value} {M : List Assn} (hl : j < len)
    (h : ∀ b, a = some ⟨b, 0, none⟩ → CX P ops Q n e0 (putE env dst (.pointer (some ⟨b, j * sz, none⟩))) L rest) (hg : gd ops n env g = some true := by rfl) (hx : ev n env x = some (.slice a len cap) := by rfl)
    (hy : ev n env y = some (.int k i) := by rfl) (hi : i = (j : Int) := by first | rfl | omega) (p : Pick (own e sz a len cap xs) L M := by repeat (first | exact .head _ | apply Pick.tail | apply Upd.tail)) : CX P ops Q n e0 env L (⟨dst, .indexAddr t x y, ty, pos, aft, g⟩ :: rest) := CX.indexOwn hg hx hy hi p hl h
variable {R : List Assn} {s : Order} {T : Nat → Bool}
theorem CH.pureA {i : Nat} {v : Value} (h : CH P ops Q n e0 T R (putE env dst v) L s) (ho : ops[i]? = some ⟨dst, op, ty, pos, aft, g⟩ := by rfl) (hp : PS P ops n env [] ⟨dst, op, ty, pos, aft, g⟩ v := by first | (apply PS.cmpT; (· rfl); (· rfl); (· first | assumption | omega | rfl | decide)) | (apply PS.cmpF; (· rfl); (· rfl); (· first | assumption | omega | rfl | decide)) | (apply PS.cmp <;> rfl) | (apply PS.notD <;> rfl) | (apply PS.auto <;> rfl) | (apply PS.fieldAddr <;> rfl) | (apply PS.load; (· rfl); (· rfl); (· apply CellAt.pick; (· repeat (first | exact .head _ | apply Pick.tail | apply Upd.tail)); (· rfl))) | (apply PS.arith; (· rfl); (· rfl); (· simp only [inR]; omega)) | (apply PS.convR; (· rfl); (· rfl); (· simp only [inR]; omega)) | (apply PS.lenSl <;> rfl) | (apply PS.capSl <;> rfl) | (apply PS.maxI <;> rfl) | (apply PS.minI <;> rfl) | (apply PS.eqlPtrNil <;> rfl) | (apply PS.neqPtrNil <;> rfl) | (apply PS.eqlSlNil <;> rfl) | (apply PS.makeFunc <;> rfl) | (apply PS.fieldS <;> rfl)) : CH P ops Q n e0 T R env L ((i, 0) :: s) := CH.pure ho hp h
theorem CH.readA {i : Nat} {v : Value} {M : List Assn} (h : CH P ops Q n e0 T R (putE env dst v) L s) (ho : ops[i]? = some ⟨dst, op, ty, pos, aft, g⟩ := by rfl) (hp : PS P ops n env R ⟨dst, op, ty, pos, aft, g⟩ v := by first | (apply PS.cmpT; (· rfl); (· rfl); (· first | assumption | omega | rfl | decide)) | (apply PS.cmpF; (· rfl); (· rfl); (· first | assumption | omega | rfl | decide)) | (apply PS.cmp <;> rfl) | (apply PS.notD <;> rfl) | (apply PS.auto <;> rfl) | (apply PS.fieldAddr <;> rfl) | (apply PS.load; (· rfl); (· rfl); (· apply CellAt.pick; (· repeat (first | exact .head _ | apply Pick.tail | apply Upd.tail)); (· rfl))) | (apply PS.arith; (· rfl); (· rfl); (· simp only [inR]; omega)) | (apply PS.convR; (· rfl); (· rfl); (· simp only [inR]; omega)) | (apply PS.lenSl <;> rfl) | (apply PS.capSl <;> rfl) | (apply PS.maxI <;> rfl) | (apply PS.minI <;> rfl) | (apply PS.eqlPtrNil <;> rfl) | (apply PS.neqPtrNil <;> rfl) | (apply PS.eqlSlNil <;> rfl) | (apply PS.makeFunc <;> rfl) | (apply PS.fieldS <;> rfl)) (hr : Sel L R M := by repeat (first | exact Sel.nil _ | (apply Sel.cons; (· repeat (first | exact .head _ | apply Pick.tail | apply Upd.tail))))) : CH P ops Q n e0 T R env L ((i, 1) :: s) := CH.read ho hp hr h
theorem CH.skA {i k : Nat} (h : CH P ops Q n e0 T R (putE env dst undef) L s) (hk : Nat.ble k 1 = true := by rfl) (ho : ops[i]? = some ⟨dst, op, ty, pos, aft, g⟩ := by rfl) (hg : gd ops n env g = some false := by rfl) : CH P ops Q n e0 T R env L ((i, k) :: s) := CH.skip hk ho hg h
theorem CH.skCA {i k : Nat} (h : CH P ops Q n e0 T R (putE env dst undef) L s) (hk : Nat.ble k 1 = false := by rfl) (ho : ops[i]? = some ⟨dst, op, ty, pos, aft, g⟩ := by rfl) (hg : gd ops n env g = some false := by rfl) : CH P ops Q n e0 T R env L ((i, k) :: s) := CH.skipC hk ho hg h
end
end Go.Cx
