/- Bits of whole numbers that are not negative. -/
import Derived.Test.YtlckhaodecdbbaaCg
set_option linter.unusedVariables false
set_option linter.unusedSimpArgs false
namespace Go.Cx
def uns (k : IntKind) : Bool := match k with | .u8 => true | .u32 => true | .u64 => true | _ => false
theorem wrap_uns {k : IntKind} (h : uns k = true) {r : Nat} (hr : r < 2 ^ k.bits) : k.wrap (r : Int) = (r : Int) := by
  cases k <;> simp only [uns, IntKind.bits] at h hr <;> first | exact wr_u8 (by omega) (by omega) | exact wr_u32 (by omega) (by omega) | exact wr_u64 (by omega) (by omega) | exact absurd h (by decide)
section
variable {P : Program} {ops : Array Oper} {n : Nat} {env : Env} {L : List Assn}
variable {dst : Option Tmp} {ty : TypeId} {pos : String} {aft : Array Edge} {g : Option (Nat × Bool)}
theorem run_xor {k : IntKind} (h : uns k = true) {a b : Nat} (ha : a < 2 ^ k.bits) (hb : b < 2 ^ k.bits) (w : World) : (Op.intBits .xor k (a : Int) (b : Int)).run P w = .ok (.int k ((a ^^^ b : Nat) : Int)) w := by
  have h1 : a ^^^ b < 2 ^ k.bits := Nat.xor_lt_two_pow ha hb
  simp [Op.intBits, Nat.mod_eq_of_lt ha, Nat.mod_eq_of_lt hb, wrap_uns h h1]
theorem run_and {k : IntKind} (h : uns k = true) {a b : Nat} (ha : a < 2 ^ k.bits) (hb : b < 2 ^ k.bits) (w : World) : (Op.intBits .and k (a : Int) (b : Int)).run P w = .ok (.int k ((a &&& b : Nat) : Int)) w := by
  have h1 : a &&& b < 2 ^ k.bits := Nat.and_lt_two_pow a hb
  simp [Op.intBits, Nat.mod_eq_of_lt ha, Nat.mod_eq_of_lt hb, wrap_uns h h1]
theorem run_or {k : IntKind} (h : uns k = true) {a b : Nat} (ha : a < 2 ^ k.bits) (hb : b < 2 ^ k.bits) (w : World) : (Op.intBits .or k (a : Int) (b : Int)).run P w = .ok (.int k ((a ||| b : Nat) : Int)) w := by
  have h1 : a ||| b < 2 ^ k.bits := Nat.or_lt_two_pow ha hb
  simp [Op.intBits, Nat.mod_eq_of_lt ha, Nat.mod_eq_of_lt hb, wrap_uns h h1]
theorem PS.xorN {t u : TypeId} {x y : Operand} {k : IntKind} (a b : Nat) (h : uns k = true) (ha : a < 2 ^ k.bits) (hb : b < 2 ^ k.bits) (hg : gd ops n env g = some true) (hx : ev n env x = some (.int k (a : Int))) (hy : ev n env y = some (.int k (b : Int))) :
    PS P ops n env L ⟨dst, .binOp .xor t x y u, ty, pos, aft, g⟩ (.int k ((a ^^^ b : Nat) : Int)) :=
  ⟨hg, fun a' w hf _ => by simp [execOp, hf.eval hx, hf.eval hy, eqGuard_int, Go.binOp, run_xor h ha hb]⟩
theorem PS.andN {t u : TypeId} {x y : Operand} {k : IntKind} (a b : Nat) (h : uns k = true) (ha : a < 2 ^ k.bits) (hb : b < 2 ^ k.bits) (hg : gd ops n env g = some true) (hx : ev n env x = some (.int k (a : Int))) (hy : ev n env y = some (.int k (b : Int))) :
    PS P ops n env L ⟨dst, .binOp .and t x y u, ty, pos, aft, g⟩ (.int k ((a &&& b : Nat) : Int)) :=
  ⟨hg, fun a' w hf _ => by simp [execOp, hf.eval hx, hf.eval hy, eqGuard_int, Go.binOp, run_and h ha hb]⟩
theorem PS.orN {t u : TypeId} {x y : Operand} {k : IntKind} (a b : Nat) (h : uns k = true) (ha : a < 2 ^ k.bits) (hb : b < 2 ^ k.bits) (hg : gd ops n env g = some true) (hx : ev n env x = some (.int k (a : Int))) (hy : ev n env y = some (.int k (b : Int))) :
    PS P ops n env L ⟨dst, .binOp .or t x y u, ty, pos, aft, g⟩ (.int k ((a ||| b : Nat) : Int)) :=
  ⟨hg, fun a' w hf _ => by simp [execOp, hf.eval hx, hf.eval hy, eqGuard_int, Go.binOp, run_or h ha hb]⟩
theorem run_neBool {t : TypeId} (hu : P.underlying t = some .bool) (a b : Bool) (w : World) : (Go.binOp .neq t (.bool a) (.bool b)).run P w = .ok (.bool (a != b)) w := by
  have h : ∀ k : Nat, (Op.equalIn (k + 1) t (.bool a) (.bool b)).run P w = .ok (a == b) w := fun k => by simp [Op.equalIn, run_underlying hu]
  simp only [Go.binOp]
  simp [Op.equal, Op.maxDepth, h 9999, bne]
theorem PS.neqBoolF {t u : TypeId} {x y : Operand} {a b : Bool} (hu : P.underlying t = some .bool) (hg : gd ops n env g = some true) (hx : ev n env x = some (.bool a)) (hy : ev n env y = some (.bool b)) (hab : a = b) :
    PS P ops n env L ⟨dst, .binOp .neq t x y u, ty, pos, aft, g⟩ (.bool false) :=
  ⟨hg, fun ac w hf _ => by subst hab; simp [execOp, hf.eval hx, hf.eval hy, eqGuard, run_neBool hu]⟩
variable {Q : Exit → Act → World → Prop} {e0 : World} {rest : List Oper}
theorem run_buildSl0 {t e sz : Nat} (E : P.underlying t = some (.slice e)) (hs : ∀ w, (sizeOf e).run P w = .ok sz w) (w : World) : (Instr.buildSlice t 0 #[]).run P w = .ok (.slice (some ⟨w.heap.size, 0, none⟩) 0 0) (w.alloc (.cells #[] e)) := by
  simp [Instr.buildSlice, Sem.run_bind, run_underlying E, hs, Instr.fill, newRow, newObj, Sem.run]
  have : (Array.range 0) = #[] := by decide
  rw [this]; simp
/-- A slice of nothing that is not nil. -/
theorem CX.buildSl0 {t e sz : Nat} [E : ElemA P t e sz] (h : ∀ b, CX P ops Q n e0 (putE env dst (.slice (some ⟨b, 0, none⟩) 0 0)) (own e sz (some ⟨b, 0, none⟩) 0 0 [] :: L) rest) (hg : gd ops n env g = some true := by rfl) :
    CX P ops Q n e0 env L (⟨dst, .buildSlice t 0 #[], ty, pos, aft, g⟩ :: rest) := by
  refine CX.step hg fun a w hfr hs he K hK => ?_
  have hr2 : (execOp a.eval ⟨dst, .buildSlice t 0 #[], ty, pos, aft, g⟩).run P w = .ok (.value (.slice (some ⟨w.heap.size, 0, none⟩) 0 0)) (w.alloc (.cells #[] e)) := by
    have := run_buildSl0 E.under E.size w
    simp only [execOp, Sem.run_bind, List.map_toArray, List.map_nil, Array.map_empty, this, Result.andThen_ok, Sem.run_pure]
  unfold Oper.wp
  rw [hr2]
  refine hK _ _ (h w.heap.size _ _ (hfr.put dst _) ?_ (he.trans ⟨rfl, rfl, rfl⟩))
  rw [ph_alloc]
  exact hs.push (ph_size w) fun k hk => own_ok.2 ⟨by simp, Nat.le_refl _, Nat.zero_le _, .inr ⟨_, #[], rfl, hk, by simp, by simp⟩⟩
theorem CQ.fact {K : Act → World → Prop} {p : Prop} (hp : ∀ h, Sep L h → p) (h : p → CQ K n e0 env L) : CQ K n e0 env L := fun a w hf hs he => h (hp _ hs) a w hf hs he
/-- Where an owned slice stands that is not empty. -/
theorem own_some {e sz m cap : Nat} {a : Option Addr} {xs : List Value} {h : PH} (o : (own e sz a m cap xs).ok h) : a = none ∧ m = 0 ∧ cap = 0 ∨ ∃ b, a = some ⟨b, 0, none⟩ := by
  obtain ⟨h1, h2, h3, h4⟩ := own_ok.1 o
  rcases h4 with ⟨rfl, rfl⟩ | ⟨g, _, rfl, _⟩
  · exact .inl ⟨rfl, by omega, rfl⟩
  · exact .inr ⟨g, rfl⟩
end
end Go.Cx
