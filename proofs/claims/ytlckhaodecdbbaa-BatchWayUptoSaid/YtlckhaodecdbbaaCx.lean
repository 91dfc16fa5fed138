/- Stepping through a region's operations: what is known of the temporaries is a short list, what is known of the memory is a list of assertions. No program in sight. -/
import Derived.Test.YtlckhaodecdbbaaSl
import Derived.Tactics
import Derived.Laws.Rows
import Derived.Laws.Tables
import Derived.Laws.Entries
import Derived.Laws.Bits
set_option linter.unusedSimpArgs false
set_option linter.unusedVariables false
namespace Go.Cx
abbrev Env := List (Nat × Value)
def look : Env → Nat → Option Value
  | [], _ => none
  | (t, v) :: r, u => if t = u then some v else look r u
def ev (n : Nat) (env : Env) : Operand → Option Value
  | .tmp t => if t < n then look env t else none
  | .const v => some v
  | .global g => some (.pointer (some ⟨g, 0, none⟩))
  | .func f => some (.func (.func f) #[] #[])
def putE (env : Env) : Option Tmp → Value → Env
  | some d, v => (d, v) :: env
  | none, _ => env

structure Fr (n : Nat) (env : Env) (a : Act) : Prop where
  defers : a.defers = []
  size : a.tmps.size = n
  get : ∀ t v, t < n → look env t = some v → a.tmps.getD t undef = v

theorem Fr.eval {n : Nat} {env : Env} {a : Act} (f : Fr n env a) {x : Operand} {v : Value} (h : ev n env x = some v) : a.eval x = v := by
  cases x with
  | tmp t =>
    simp only [ev] at h
    split at h
    · exact f.get t v (by assumption) h
    · cases h
  | const u => simp only [ev, Option.some.injEq] at h; exact h
  | global g => simp only [ev, Option.some.injEq] at h; exact h
  | func g => simp only [ev, Option.some.injEq] at h; exact h

theorem Fr.put {n : Nat} {env : Env} {a : Act} (f : Fr n env a) (d : Option Tmp) (v : Value) : Fr n (putE env d v) (a.put d v) := by
  cases d with
  | none => exact f
  | some d =>
    refine ⟨f.defers, by simp [Act.put, f.size], fun t u ht hl => ?_⟩
    simp only [putE, look] at hl
    by_cases e : d = t
    · subst e
      simp only [if_true, Option.some.injEq] at hl
      subst hl
      simp [Act.put, f.size, ht]
    · rw [if_neg e] at hl
      have := f.get t u ht hl
      simp only [Act.put]
      rw [← this]
      simp [Array.getElem?_setIfInBounds_ne e]

def Sub (cur : Env) : Env → Prop
  | [] => True
  | (t, v) :: r => look cur t = some v ∧ Sub cur r
theorem Sub.look {cur : Env} : ∀ {e : Env}, Sub cur e → ∀ t v, look e t = some v → Cx.look cur t = some v
  | [], _, _, _, h => by cases h
  | (u, x) :: r, ⟨h1, h2⟩, t, v, h => by
    simp only [Cx.look] at h
    split at h
    · rename_i e; subst e; cases h; exact h1
    · exact Sub.look h2 t v h
theorem Fr.sub {n : Nat} {env e : Env} {a : Act} (f : Fr n env a) (s : Sub env e) : Fr n e a :=
  ⟨f.defers, f.size, fun t v ht hl => f.get t v ht (s.look t v hl)⟩

def gd (ops : Array Oper) (n : Nat) (env : Env) : Option (Nat × Bool) → Option Bool
  | none => some true
  | some (j, want) =>
    match (ops[j]?).bind (·.dst) with
    | none => none
    | some d => match ev n env (.tmp d) with
      | some (.bool b) => some (b == want)
      | some (.tuple _) => some false
      | _ => none

theorem gd_wanted {ops : Array Oper} {n : Nat} {env : Env} {a : Act} (f : Fr n env a) {o : Oper} {b : Bool} (h : gd ops n env o.guard = some b) : Region.wanted o (yielded ops a.tmps) = b := by
  unfold Region.wanted
  cases hg : o.guard with
  | none => rw [hg] at h; simpa [gd] using h
  | some jw =>
    obtain ⟨j, want⟩ := jw
    rw [hg] at h
    simp only [gd] at h
    simp only [yielded]
    cases hd : (ops[j]?).bind (·.dst) with
    | none => rw [hd] at h; cases h
    | some d =>
      rw [hd] at h
      simp only [Option.bind_some] at h ⊢
      cases hv : ev n env (.tmp d) with
      | none => rw [hv] at h; cases h
      | some v =>
        rw [hv] at h
        have he := f.eval hv
        have hlt : d < n := by
          simp only [ev] at hv
          split at hv
          · assumption
          · cases hv
        have hs : a.tmps[d]? = some v := by
          have : d < a.tmps.size := by rw [f.size]; exact hlt
          simp only [Act.eval] at he
          simp only [Array.getD_eq_getD_getElem?, Array.getElem?_eq_getElem this, Option.getD_some] at he
          simp [Array.getElem?_eq_getElem this, he]
        rw [hs]
        cases v <;> simp_all

/-- The rest of a region's operations, in the text's order. -/
def CX (P : Program) (ops : Array Oper) (Q : Exit → Act → World → Prop) (n : Nat) (e0 : World) (env : Env) (L : List Assn) (rest : List Oper) : Prop :=
  ∀ a w, Fr n env a → Sep L w.ph → Env0 e0 w → wpList P ops Q rest a w
/-- A piece of code. -/
def CC (P : Program) (c : Code) (Q : Exit → Act → World → Prop) (n : Nat) (e0 : World) (env : Env) (L : List Assn) : Prop :=
  ∀ a w, Fr n env a → Sep L w.ph → Env0 e0 w → c.wp P Q a w
/-- What is to hold at the end. -/
def CQ (K : Act → World → Prop) (n : Nat) (e0 : World) (env : Env) (L : List Assn) : Prop :=
  ∀ a w, Fr n env a → Sep L w.ph → Env0 e0 w → K a w

section
variable {P : Program} {ops : Array Oper} {Q : Exit → Act → World → Prop} {n : Nat} {e0 : World} {env : Env} {L : List Assn} {rest : List Oper}
variable {dst : Option Tmp} {ty : TypeId} {pos : String} {aft : Array Edge} {g : Option (Nat × Bool)} {op : Op}

theorem CX.skip (hg : gd ops n env g = some false) (h : CX P ops Q n e0 (putE env dst undef) L rest) : CX P ops Q n e0 env L (⟨dst, op, ty, pos, aft, g⟩ :: rest) := by
  intro a w hf hs he
  have hw : Region.wanted (⟨dst, op, ty, pos, aft, g⟩ : Oper) (yielded ops a.tmps) = false := gd_wanted hf hg
  unfold wpList
  rw [hw]
  exact h _ _ (hf.put dst undef) hs he

/-- One operation: whatever it does. -/
theorem CX.step (hg : gd ops n env g = some true)
    (h : ∀ a w, Fr n env a → Sep L w.ph → Env0 e0 w → ∀ K : Act → World → Prop, (∀ a w, wpList P ops Q rest a w → K a w) → (⟨dst, op, ty, pos, aft, g⟩ : Oper).wp P a w K Q) :
    CX P ops Q n e0 env L (⟨dst, op, ty, pos, aft, g⟩ :: rest) := by
  intro a w hf hs he
  have hw : Region.wanted (⟨dst, op, ty, pos, aft, g⟩ : Oper) (yielded ops a.tmps) = true := gd_wanted hf hg
  unfold wpList
  rw [hw]
  exact .inl (h a w hf hs he _ fun _ _ h => h)

/-- One operation that yields a value, in a world of which L' is known then. -/
theorem CX.value (hg : gd ops n env g = some true) {v : Value} {L' : List Assn}
    (hr : ∀ a w, Fr n env a → Sep L w.ph → ∃ w', (execOp a.eval ⟨dst, op, ty, pos, aft, g⟩).run P w = .ok (.value v) w' ∧ Sep L' w'.ph ∧ Env0 w w')
    (h : CX P ops Q n e0 (putE env dst v) L' rest) : CX P ops Q n e0 env L (⟨dst, op, ty, pos, aft, g⟩ :: rest) := by
  refine CX.step hg fun a w hf hs he K hK => ?_
  obtain ⟨w', hrun, hs', he'⟩ := hr a w hf hs
  unfold Oper.wp
  rw [hrun]
  exact hK _ _ (h _ _ (hf.put dst v) hs' (he.trans he'))

/-- One operation that only reckons. -/
theorem CX.pure' (hg : gd ops n env g = some true) {v : Value}
    (hr : ∀ a w, Fr n env a → Sep L w.ph → (execOp a.eval ⟨dst, op, ty, pos, aft, g⟩).run P w = .ok (.value v) w)
    (h : CX P ops Q n e0 (putE env dst v) L rest) : CX P ops Q n e0 env L (⟨dst, op, ty, pos, aft, g⟩ :: rest) :=
  CX.value hg (fun a w hf hs => ⟨w, hr a w hf hs, hs, Env0.refl w⟩) h

/-- An operation that only reckons or reads: its value. -/
def PS (P : Program) (ops : Array Oper) (n : Nat) (env : Env) (L : List Assn) (o : Oper) (v : Value) : Prop :=
  gd ops n env o.guard = some true ∧ ∀ a w, Fr n env a → Sep L w.ph → (execOp a.eval o).run P w = .ok (.value v) w
theorem CX.ps {v : Value} (hp : PS P ops n env L ⟨dst, op, ty, pos, aft, g⟩ v) (h : CX P ops Q n e0 (putE env dst v) L rest) : CX P ops Q n e0 env L (⟨dst, op, ty, pos, aft, g⟩ :: rest) :=
  CX.pure' hp.1 hp.2 h

theorem CX.nil (h : CQ (Q .normal) n e0 env L) : CX P ops Q n e0 env L [] := fun a w hf hs he => h a w hf hs he

theorem PS.move {x : Operand} {v : Value} (hg : gd ops n env g = some true) (hx : ev n env x = some v) :
    PS P ops n env L ⟨dst, .move x, ty, pos, aft, g⟩ (v) :=
  ⟨hg, (fun a w hf _ => by simp [execOp, hf.eval hx])⟩
theorem PS.assign {x : Operand} {v : Value} (hg : gd ops n env g = some true) (hx : ev n env x = some v) :
    PS P ops n env L ⟨dst, .assign x, ty, pos, aft, g⟩ (v) :=
  ⟨hg, (fun a w hf _ => by simp [execOp, hf.eval hx])⟩
theorem PS.pickT {c x y : Operand} {v : Value} (hg : gd ops n env g = some true) (hc : ev n env c = some (.bool true)) (hx : ev n env x = some v) :
    PS P ops n env L ⟨dst, .pick c x y, ty, pos, aft, g⟩ (v) :=
  ⟨hg, (fun a w hf _ => by simp [execOp, hf.eval hx, hf.eval hc, asBool])⟩
theorem PS.pickF {c x y : Operand} {v : Value} (hg : gd ops n env g = some true) (hc : ev n env c = some (.bool false)) (hy : ev n env y = some v) :
    PS P ops n env L ⟨dst, .pick c x y, ty, pos, aft, g⟩ (v) :=
  ⟨hg, (fun a w hf _ => by simp [execOp, hf.eval hy, hf.eval hc, asBool])⟩
theorem PS.extract {x : Operand} {i : Nat} {vs : Array Value} {v : Value} (hg : gd ops n env g = some true) (hx : ev n env x = some (.tuple vs)) (hi : vs[i]? = some v) :
    PS P ops n env L ⟨dst, .extract x i, ty, pos, aft, g⟩ (v) :=
  ⟨hg, (fun a w hf _ => by simp [execOp, hf.eval hx, Instr.extract, hi])⟩
theorem PS.notD {x : Operand} {t : TypeId} {p : Prop} {_ : Decidable p} (hg : gd ops n env g = some true) (hx : ev n env x = some (.bool (decide p))) :
    PS P ops n env L ⟨dst, .unOp .not t x, ty, pos, aft, g⟩ (.bool (decide (¬ p))) :=
  ⟨hg, (fun a w hf _ => by simp [execOp, hf.eval hx, Op.unary])⟩
theorem PS.not {x : Operand} {t : TypeId} {b : Bool} (hg : gd ops n env g = some true) (hx : ev n env x = some (.bool b)) :
    PS P ops n env L ⟨dst, .unOp .not t x, ty, pos, aft, g⟩ (.bool (!b)) :=
  ⟨hg, (fun a w hf _ => by simp [execOp, hf.eval hx, Op.unary])⟩
theorem PS.notInt {x : Operand} {t : TypeId} {k : IntKind} {z : Int} (hg : gd ops n env g = some true) (hx : ev n env x = some (.int k z)) {r : Int}
    (hr : ∀ w : World, (Op.intBits .xor k (if k.signed then -1 else k.max) z).run P w = .ok (.int k r) w) :
    PS P ops n env L ⟨dst, .unOp .xor t x, ty, pos, aft, g⟩ (.int k r) :=
  ⟨hg, (fun a w hf _ => by simp [execOp, hf.eval hx, Op.unary, hr w])⟩
theorem PS.nilCheck {x : Operand} {ad : Addr} (hg : gd ops n env g = some true) (hx : ev n env x = some (.pointer (some ad))) :
    PS P ops n env L ⟨dst, .nilCheck x, ty, pos, aft, g⟩ (.pointer (some ad)) :=
  ⟨hg, (fun a w hf _ => by simp [execOp, hf.eval hx])⟩
/-! ### Whole numbers -/
theorem int_beq (p q : Int) : (p == q) = decide (p = q) := rfl
theorem eqGuard_int (bo : BinOp) (t : TypeId) (x y : Operand) (k k' : IntKind) (a b : Int) (w : World) : (eqGuard bo t x y (.int k a) (.int k' b)).run P w = .ok () w := by
  cases bo <;> simp [eqGuard]

theorem PS.add {x y : Operand} {t u : TypeId} {k : IntKind} {p q z : Int} (hg : gd ops n env g = some true) (hx : ev n env x = some (.int k p)) (hy : ev n env y = some (.int k q))
    (hz : k.wrap (p + q) = z) :
    PS P ops n env L ⟨dst, .binOp .add t x y u, ty, pos, aft, g⟩ (.int k z) :=
  ⟨hg, (fun a w hf _ => by simp [execOp, hf.eval hx, hf.eval hy, eqGuard_int, Go.binOp, Op.intArith, hz])⟩
theorem PS.sub {x y : Operand} {t u : TypeId} {k : IntKind} {p q z : Int} (hg : gd ops n env g = some true) (hx : ev n env x = some (.int k p)) (hy : ev n env y = some (.int k q))
    (hz : k.wrap (p - q) = z) :
    PS P ops n env L ⟨dst, .binOp .sub t x y u, ty, pos, aft, g⟩ (.int k z) :=
  ⟨hg, (fun a w hf _ => by simp [execOp, hf.eval hx, hf.eval hy, eqGuard_int, Go.binOp, Op.intArith, hz])⟩
theorem PS.mul {x y : Operand} {t u : TypeId} {k : IntKind} {p q z : Int} (hg : gd ops n env g = some true) (hx : ev n env x = some (.int k p)) (hy : ev n env y = some (.int k q))
    (hz : k.wrap (p * q) = z) :
    PS P ops n env L ⟨dst, .binOp .mul t x y u, ty, pos, aft, g⟩ (.int k z) :=
  ⟨hg, (fun a w hf _ => by simp [execOp, hf.eval hx, hf.eval hy, eqGuard_int, Go.binOp, Op.intArith, hz])⟩
theorem PS.quo {x y : Operand} {t u : TypeId} {k : IntKind} {p q z : Int} (hg : gd ops n env g = some true) (hx : ev n env x = some (.int k p)) (hy : ev n env y = some (.int k q))
    (hq : q ≠ 0) (hz : k.wrap (p.tdiv q) = z) :
    PS P ops n env L ⟨dst, .binOp .quo t x y u, ty, pos, aft, g⟩ (.int k z) :=
  ⟨hg, (fun a w hf _ => by simp [execOp, hf.eval hx, hf.eval hy, eqGuard_int, Go.binOp, Op.intDiv, hz, hq])⟩
theorem PS.rem {x y : Operand} {t u : TypeId} {k : IntKind} {p q z : Int} (hg : gd ops n env g = some true) (hx : ev n env x = some (.int k p)) (hy : ev n env y = some (.int k q))
    (hq : q ≠ 0) (hz : p.tmod q = z) :
    PS P ops n env L ⟨dst, .binOp .rem t x y u, ty, pos, aft, g⟩ (.int k z) :=
  ⟨hg, (fun a w hf _ => by simp [execOp, hf.eval hx, hf.eval hy, eqGuard_int, Go.binOp, Op.intDiv, hz, hq])⟩
theorem PS.lss {x y : Operand} {t u : TypeId} {k : IntKind} {p q : Int} (hg : gd ops n env g = some true) (hx : ev n env x = some (.int k p)) (hy : ev n env y = some (.int k q)) :
    PS P ops n env L ⟨dst, .binOp .lss t x y u, ty, pos, aft, g⟩ (.bool (decide (p < q))) :=
  ⟨hg, (fun a w hf _ => by simp [execOp, hf.eval hx, hf.eval hy, eqGuard_int, Go.binOp, Op.intCmp])⟩
theorem PS.leq {x y : Operand} {t u : TypeId} {k : IntKind} {p q : Int} (hg : gd ops n env g = some true) (hx : ev n env x = some (.int k p)) (hy : ev n env y = some (.int k q)) :
    PS P ops n env L ⟨dst, .binOp .leq t x y u, ty, pos, aft, g⟩ (.bool (decide (p ≤ q))) :=
  ⟨hg, (fun a w hf _ => by simp [execOp, hf.eval hx, hf.eval hy, eqGuard_int, Go.binOp, Op.intCmp])⟩
theorem PS.gtr {x y : Operand} {t u : TypeId} {k : IntKind} {p q : Int} (hg : gd ops n env g = some true) (hx : ev n env x = some (.int k p)) (hy : ev n env y = some (.int k q)) :
    PS P ops n env L ⟨dst, .binOp .gtr t x y u, ty, pos, aft, g⟩ (.bool (decide (q < p))) :=
  ⟨hg, (fun a w hf _ => by simp [execOp, hf.eval hx, hf.eval hy, eqGuard_int, Go.binOp, Op.intCmp])⟩
theorem PS.geq {x y : Operand} {t u : TypeId} {k : IntKind} {p q : Int} (hg : gd ops n env g = some true) (hx : ev n env x = some (.int k p)) (hy : ev n env y = some (.int k q)) :
    PS P ops n env L ⟨dst, .binOp .geq t x y u, ty, pos, aft, g⟩ (.bool (decide (q ≤ p))) :=
  ⟨hg, (fun a w hf _ => by simp [execOp, hf.eval hx, hf.eval hy, eqGuard_int, Go.binOp, Op.intCmp])⟩
theorem PS.eql {x y : Operand} {t u : TypeId} {k : IntKind} {p q : Int} (hg : gd ops n env g = some true) (hx : ev n env x = some (.int k p)) (hy : ev n env y = some (.int k q)) :
    PS P ops n env L ⟨dst, .binOp .eql t x y u, ty, pos, aft, g⟩ (.bool (decide (p = q))) :=
  ⟨hg, (fun a w hf _ => by simp [execOp, hf.eval hx, hf.eval hy, eqGuard_int, Go.binOp, Op.intCmp, int_beq])⟩
theorem PS.neq {x y : Operand} {t u : TypeId} {k : IntKind} {p q : Int} (hg : gd ops n env g = some true) (hx : ev n env x = some (.int k p)) (hy : ev n env y = some (.int k q)) :
    PS P ops n env L ⟨dst, .binOp .neq t x y u, ty, pos, aft, g⟩ (.bool (decide (p ≠ q))) :=
  ⟨hg, (fun a w hf _ => by simp [execOp, hf.eval hx, hf.eval hy, eqGuard_int, Go.binOp, Op.intCmp, bne, int_beq])⟩
theorem PS.lssT {x y : Operand} {t u : TypeId} {k : IntKind} {p q : Int} (hg : gd ops n env g = some true) (hx : ev n env x = some (.int k p)) (hy : ev n env y = some (.int k q)) (h : p < q) :
    PS P ops n env L ⟨dst, .binOp .lss t x y u, ty, pos, aft, g⟩ (.bool true) := by
  have e : (Value.bool true) = .bool (decide (p < q)) := by rw [Value.bool.injEq]; exact (decide_eq_true h).symm
  rw [e]; exact PS.lss hg hx hy
theorem PS.lssF {x y : Operand} {t u : TypeId} {k : IntKind} {p q : Int} (hg : gd ops n env g = some true) (hx : ev n env x = some (.int k p)) (hy : ev n env y = some (.int k q)) (h : ¬ (p < q)) :
    PS P ops n env L ⟨dst, .binOp .lss t x y u, ty, pos, aft, g⟩ (.bool false) := by
  have e : (Value.bool false) = .bool (decide (p < q)) := by rw [Value.bool.injEq]; exact (decide_eq_false h).symm
  rw [e]; exact PS.lss hg hx hy
theorem PS.leqT {x y : Operand} {t u : TypeId} {k : IntKind} {p q : Int} (hg : gd ops n env g = some true) (hx : ev n env x = some (.int k p)) (hy : ev n env y = some (.int k q)) (h : p ≤ q) :
    PS P ops n env L ⟨dst, .binOp .leq t x y u, ty, pos, aft, g⟩ (.bool true) := by
  have e : (Value.bool true) = .bool (decide (p ≤ q)) := by rw [Value.bool.injEq]; exact (decide_eq_true h).symm
  rw [e]; exact PS.leq hg hx hy
theorem PS.leqF {x y : Operand} {t u : TypeId} {k : IntKind} {p q : Int} (hg : gd ops n env g = some true) (hx : ev n env x = some (.int k p)) (hy : ev n env y = some (.int k q)) (h : ¬ (p ≤ q)) :
    PS P ops n env L ⟨dst, .binOp .leq t x y u, ty, pos, aft, g⟩ (.bool false) := by
  have e : (Value.bool false) = .bool (decide (p ≤ q)) := by rw [Value.bool.injEq]; exact (decide_eq_false h).symm
  rw [e]; exact PS.leq hg hx hy
theorem PS.gtrT {x y : Operand} {t u : TypeId} {k : IntKind} {p q : Int} (hg : gd ops n env g = some true) (hx : ev n env x = some (.int k p)) (hy : ev n env y = some (.int k q)) (h : q < p) :
    PS P ops n env L ⟨dst, .binOp .gtr t x y u, ty, pos, aft, g⟩ (.bool true) := by
  have e : (Value.bool true) = .bool (decide (q < p)) := by rw [Value.bool.injEq]; exact (decide_eq_true h).symm
  rw [e]; exact PS.gtr hg hx hy
theorem PS.gtrF {x y : Operand} {t u : TypeId} {k : IntKind} {p q : Int} (hg : gd ops n env g = some true) (hx : ev n env x = some (.int k p)) (hy : ev n env y = some (.int k q)) (h : ¬ (q < p)) :
    PS P ops n env L ⟨dst, .binOp .gtr t x y u, ty, pos, aft, g⟩ (.bool false) := by
  have e : (Value.bool false) = .bool (decide (q < p)) := by rw [Value.bool.injEq]; exact (decide_eq_false h).symm
  rw [e]; exact PS.gtr hg hx hy
theorem PS.geqT {x y : Operand} {t u : TypeId} {k : IntKind} {p q : Int} (hg : gd ops n env g = some true) (hx : ev n env x = some (.int k p)) (hy : ev n env y = some (.int k q)) (h : q ≤ p) :
    PS P ops n env L ⟨dst, .binOp .geq t x y u, ty, pos, aft, g⟩ (.bool true) := by
  have e : (Value.bool true) = .bool (decide (q ≤ p)) := by rw [Value.bool.injEq]; exact (decide_eq_true h).symm
  rw [e]; exact PS.geq hg hx hy
theorem PS.geqF {x y : Operand} {t u : TypeId} {k : IntKind} {p q : Int} (hg : gd ops n env g = some true) (hx : ev n env x = some (.int k p)) (hy : ev n env y = some (.int k q)) (h : ¬ (q ≤ p)) :
    PS P ops n env L ⟨dst, .binOp .geq t x y u, ty, pos, aft, g⟩ (.bool false) := by
  have e : (Value.bool false) = .bool (decide (q ≤ p)) := by rw [Value.bool.injEq]; exact (decide_eq_false h).symm
  rw [e]; exact PS.geq hg hx hy
theorem PS.eqlT {x y : Operand} {t u : TypeId} {k : IntKind} {p q : Int} (hg : gd ops n env g = some true) (hx : ev n env x = some (.int k p)) (hy : ev n env y = some (.int k q)) (h : p = q) :
    PS P ops n env L ⟨dst, .binOp .eql t x y u, ty, pos, aft, g⟩ (.bool true) := by
  have e : (Value.bool true) = .bool (decide (p = q)) := by rw [Value.bool.injEq]; exact (decide_eq_true h).symm
  rw [e]; exact PS.eql hg hx hy
theorem PS.eqlF {x y : Operand} {t u : TypeId} {k : IntKind} {p q : Int} (hg : gd ops n env g = some true) (hx : ev n env x = some (.int k p)) (hy : ev n env y = some (.int k q)) (h : ¬ (p = q)) :
    PS P ops n env L ⟨dst, .binOp .eql t x y u, ty, pos, aft, g⟩ (.bool false) := by
  have e : (Value.bool false) = .bool (decide (p = q)) := by rw [Value.bool.injEq]; exact (decide_eq_false h).symm
  rw [e]; exact PS.eql hg hx hy
theorem PS.neqT {x y : Operand} {t u : TypeId} {k : IntKind} {p q : Int} (hg : gd ops n env g = some true) (hx : ev n env x = some (.int k p)) (hy : ev n env y = some (.int k q)) (h : p ≠ q) :
    PS P ops n env L ⟨dst, .binOp .neq t x y u, ty, pos, aft, g⟩ (.bool true) := by
  have e : (Value.bool true) = .bool (decide (p ≠ q)) := by rw [Value.bool.injEq]; exact (decide_eq_true h).symm
  rw [e]; exact PS.neq hg hx hy
theorem PS.neqF {x y : Operand} {t u : TypeId} {k : IntKind} {p q : Int} (hg : gd ops n env g = some true) (hx : ev n env x = some (.int k p)) (hy : ev n env y = some (.int k q)) (h : ¬ (p ≠ q)) :
    PS P ops n env L ⟨dst, .binOp .neq t x y u, ty, pos, aft, g⟩ (.bool false) := by
  have e : (Value.bool false) = .bool (decide (p ≠ q)) := by rw [Value.bool.injEq]; exact (decide_eq_false h).symm
  rw [e]; exact PS.neq hg hx hy
theorem PS.conv {x : Operand} {s t : TypeId} {k k' : IntKind} {p z : Int} {ds : TypeDesc} (hs : P.underlying s = some ds) (ht : P.underlying t = some (.int k')) (hg : gd ops n env g = some true) (hx : ev n env x = some (.int k p))
    (hz : k'.wrap p = z) :
    PS P ops n env L ⟨dst, .convert s t x, ty, pos, aft, g⟩ (.int k' z) :=
  ⟨hg, (fun a w hf _ => by simp [execOp, hf.eval hx, Go.convert, run_underlying hs, run_underlying ht, Conv.intToInt, hz])⟩
end

theorem wr_i64 {z : Int} (h0 : -9223372036854775808 ≤ z) (h1 : z ≤ 9223372036854775807) : IntKind.i64.wrap z = z := by
  rw [IntKind.wrap_i64]; omega
theorem wr_u64 {z : Int} (h0 : 0 ≤ z) (h1 : z ≤ 18446744073709551615) : IntKind.u64.wrap z = z := by
  simp only [IntKind.wrap, IntKind.bits, IntKind.signed]; simp; omega
theorem wr_u32 {z : Int} (h0 : 0 ≤ z) (h1 : z ≤ 4294967295) : IntKind.u32.wrap z = z := by
  simp only [IntKind.wrap, IntKind.bits, IntKind.signed]; simp; omega
theorem wr_u8 {z : Int} (h0 : 0 ≤ z) (h1 : z ≤ 255) : IntKind.u8.wrap z = z := by
  simp only [IntKind.wrap, IntKind.bits, IntKind.signed]; simp; omega
theorem tmod_nn {p q : Int} (h : 0 ≤ p) : p.tmod q = p % q := Int.tmod_eq_emod_of_nonneg h
theorem tdiv_nn {p q : Int} (h : 0 ≤ p) : p.tdiv q = p / q := Int.tdiv_eq_ediv_of_nonneg h
end Go.Cx
