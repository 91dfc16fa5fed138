/- Stepping: strings of bytes, shifts, words of bits. No program in sight. -/
import Derived.Test.YtlckhaodecdbbaaCh
import Derived.Test.YtlckhaodecdbbaaSe
import Derived.Laws.BytesArg
import Derived.Laws.Strings
set_option linter.unusedVariables false
set_option linter.unusedSimpArgs false
namespace Go.Cx
theorem not64 {n : Nat} (h : n ≤ 18446744073709551615) : 18446744073709551615 ^^^ n = 18446744073709551615 - n := by
  have h1 : (BitVec.ofNat 64 n ^^^ BitVec.allOnes 64).toNat = 18446744073709551615 ^^^ n := by
    rw [BitVec.toNat_xor, BitVec.toNat_ofNat, BitVec.toNat_allOnes, Nat.xor_comm, Nat.mod_eq_of_lt (by omega)]
  rw [← h1, BitVec.xor_allOnes, BitVec.toNat_not, BitVec.toNat_ofNat, Nat.mod_eq_of_lt (by omega)]
theorem fdiv_nat (a b : Nat) : Int.fdiv (a : Int) (b : Int) = ((a / b : Nat) : Int) := by
  rw [Int.fdiv_eq_ediv_of_nonneg _ (Int.natCast_nonneg b)]; exact Int.natCast_ediv a b
theorem or_low {a b k : Nat} (h : b < 2 ^ k) : (a * 2 ^ k) ||| b = a * 2 ^ k + b := by
  rw [← Nat.shiftLeft_eq]; exact (Nat.shiftLeft_add_eq_or_of_lt h a).symm
theorem wrap_mod {k : IntKind} (h : uns k = true) (a : Nat) : k.wrap (a : Int) = ((a % 2 ^ k.bits : Nat) : Int) := by
  cases k <;> simp only [uns] at h <;> first | exact absurd h (by decide) | (simp only [IntKind.wrap, IntKind.bits, IntKind.signed]; simp)
/-- A string of bytes. -/
def sv (b : Blk) : Value := .string ⟨b.toArray⟩
theorem strOf_ib (b : Blk) : strOfNums (ib b) = ⟨b.toArray⟩ := by
  unfold strOfNums ib
  congr 2
  rw [List.map_map]
  conv => rhs; rw [← List.map_id b]
  apply List.map_congr_left
  intro x _
  simp
section
variable {P : Program} {ops : Array Oper} {n : Nat} {env : Env} {L : List Assn}
variable {dst : Option Tmp} {ty : TypeId} {pos : String} {aft : Array Edge} {g : Option (Nat × Bool)}
theorem PS.toStr {s t e sz : Nat} [E : ElemA P s e sz] [I : IntT P e .u8] [S : StrT P t] {x : Operand} {a : Option Addr} {len cap : Nat} {b : Blk} (hg : gd ops n env g = some true) (hx : ev n env x = some (.slice a len cap)) (hl : len = b.length)
    (hr : ∀ h, Sep L h → rdx a len (cb b) h) : PS P ops n env L ⟨dst, .convert s t x, ty, pos, aft, g⟩ (sv b) :=
  ⟨hg, fun ac w hf hs => by
    subst hl
    have key : (convert s t (.slice a b.length cap)).run P w = .ok (sv b) w := by
      cases a with
      | none =>
        have h0 : b.length = 0 := by
          rcases hr _ hs with h | ⟨_, _, _, _, _, h, _⟩
          · exact h
          · cases h
        obtain rfl : b = [] := List.eq_nil_of_length_eq_zero h0
        rw [run_convert_bytes_nil w s e E.under I.under _ _ t S.under]; rfl
      | some ad =>
        rcases hr _ hs with h0 | ⟨q, off, cs, bt, fr, ea, hq, hc⟩
        · obtain rfl : b = [] := List.eq_nil_of_length_eq_zero h0
          rw [run_convert_bytes_string w s t e _ _ cap E.under I.under S.under, show ([] : Blk).length = 0 from rfl, run_bytesToString w ad 0 cap [] (by simp [loadCells, loadCellsFrom])]
          rfl
        · obtain rfl := Option.some.inj ea
          have := run_convert_bytes_arg (P := P) w s e E.under I.under q off b.length cap (ib b) (length_ib b) (fun i hi => by
            refine cell_ph hq (hc i _ ?_)
            have hi' : i < (ib b).length := by rw [length_ib]; exact hi
            simp [cb, ib, hi]) t S.under
          rw [this, strOf_ib]; rfl
    simp [execOp, hf.eval hx, key]⟩
theorem run_strEq {t : TypeId} (a b : Blk) (w : World) : (Go.binOp .eql t (sv a) (sv b)).run P w = .ok (.bool (decide (a = b))) w := by
  have : ((ByteArray.mk a.toArray).toList == (ByteArray.mk b.toArray).toList) = decide (a = b) := by rw [ByteArray.toList_eq, ByteArray.toList_eq, Bool.eq_iff_iff]; simp
  simp only [Go.binOp, sv, Op.stringOp, this]; simp
theorem run_strNe {t : TypeId} (a b : Blk) (w : World) : (Go.binOp .neq t (sv a) (sv b)).run P w = .ok (.bool (decide (a ≠ b))) w := by
  have : ((ByteArray.mk a.toArray).toList == (ByteArray.mk b.toArray).toList) = decide (a = b) := by rw [ByteArray.toList_eq, ByteArray.toList_eq, Bool.eq_iff_iff]; simp
  simp only [Go.binOp, sv, Op.stringOp, this]; simp
theorem PS.eqlStr {t u : TypeId} {x y : Operand} {a b : Blk} (hg : gd ops n env g = some true) (hx : ev n env x = some (sv a)) (hy : ev n env y = some (sv b)) :
    PS P ops n env L ⟨dst, .binOp .eql t x y u, ty, pos, aft, g⟩ (.bool (decide (a = b))) :=
  ⟨hg, fun ac w hf _ => by
    have h1 := hf.eval hx
    have h2 := hf.eval hy
    simp [execOp, h1, h2, run_strEq]; simp [eqGuard, sv]⟩
theorem PS.neqStr {t u : TypeId} {x y : Operand} {a b : Blk} (hg : gd ops n env g = some true) (hx : ev n env x = some (sv a)) (hy : ev n env y = some (sv b)) :
    PS P ops n env L ⟨dst, .binOp .neq t x y u, ty, pos, aft, g⟩ (.bool (decide (a ≠ b))) :=
  ⟨hg, fun ac w hf _ => by
    have h1 := hf.eval hx
    have h2 := hf.eval hy
    simp [execOp, h1, h2, run_strNe]; simp [eqGuard, sv]⟩
theorem run_eqBool {t : TypeId} (hu : P.underlying t = some .bool) (a b : Bool) (w : World) : (Go.binOp .eql t (.bool a) (.bool b)).run P w = .ok (.bool (a == b)) w := by
  have h : ∀ k : Nat, (Op.equalIn (k + 1) t (.bool a) (.bool b)).run P w = .ok (a == b) w := fun k => by simp [Op.equalIn, run_underlying hu]
  simp only [Go.binOp]
  simp [Op.equal, Op.maxDepth, h 9999]
theorem PS.eqlBool {t u : TypeId} {x y : Operand} {a b : Bool} (c : Bool) (hc : (a == b) = c) (hu : P.underlying t = some .bool) (hg : gd ops n env g = some true) (hx : ev n env x = some (.bool a)) (hy : ev n env y = some (.bool b)) :
    PS P ops n env L ⟨dst, .binOp .eql t x y u, ty, pos, aft, g⟩ (.bool c) :=
  ⟨hg, fun ac w hf _ => by subst hc; simp [execOp, hf.eval hx, hf.eval hy, eqGuard, run_eqBool hu]⟩
theorem PS.neqBool {t u : TypeId} {x y : Operand} {a b : Bool} (c : Bool) (hc : (a != b) = c) (hu : P.underlying t = some .bool) (hg : gd ops n env g = some true) (hx : ev n env x = some (.bool a)) (hy : ev n env y = some (.bool b)) :
    PS P ops n env L ⟨dst, .binOp .neq t x y u, ty, pos, aft, g⟩ (.bool c) :=
  ⟨hg, fun ac w hf _ => by subst hc; simp [execOp, hf.eval hx, hf.eval hy, eqGuard, run_neBool hu]⟩
/-- Words of bits: a shift by a number that is small. -/
theorem PS.shlN {t u : TypeId} {x y : Operand} {k k' : IntKind} (a s : Nat) (h : uns k = true) (hs : s ≤ k.bits) (hr : a * 2 ^ s < 2 ^ k.bits) (hg : gd ops n env g = some true) (hx : ev n env x = some (.int k (a : Int))) (hy : ev n env y = some (.int k' (s : Int))) :
    PS P ops n env L ⟨dst, .binOp .shl t x y u, ty, pos, aft, g⟩ (.int k ((a * 2 ^ s : Nat) : Int)) :=
  ⟨hg, fun ac w hf _ => by
    have e : k.wrap ((a : Int) * 2 ^ s) = ((a * 2 ^ s : Nat) : Int) := by
      have := wrap_uns h hr
      rw [← this]; simp
    have h0 : ¬ ((s : Int) < 0) := by omega
    have h1 : min s k.bits = s := Nat.min_eq_left hs
    simp [execOp, hf.eval hx, hf.eval hy, eqGuard_int, Go.binOp, Op.shift, h0, h1, e]⟩
theorem PS.shrN {t u : TypeId} {x y : Operand} {k k' : IntKind} (a s : Nat) (hs : s ≤ k.bits) (hg : gd ops n env g = some true) (hx : ev n env x = some (.int k (a : Int))) (hy : ev n env y = some (.int k' (s : Int))) :
    PS P ops n env L ⟨dst, .binOp .shr t x y u, ty, pos, aft, g⟩ (.int k ((a / 2 ^ s : Nat) : Int)) :=
  ⟨hg, fun ac w hf _ => by
    have e : Int.fdiv (a : Int) (2 ^ s) = ((a / 2 ^ s : Nat) : Int) := by rw [← fdiv_nat]; simp
    have h0 : ¬ ((s : Int) < 0) := by omega
    have h1 : min s k.bits = s := Nat.min_eq_left hs
    simp [execOp, hf.eval hx, hf.eval hy, eqGuard_int, Go.binOp, Op.shift, h0, h1, e]⟩
theorem PS.not64 {x : Operand} {t : TypeId} (a : Nat) (h : a ≤ 18446744073709551615) (hg : gd ops n env g = some true) (hx : ev n env x = some (.int .u64 (a : Int))) :
    PS P ops n env L ⟨dst, .unOp .xor t x, ty, pos, aft, g⟩ (.int .u64 ((18446744073709551615 - a : Nat) : Int)) :=
  PS.notInt hg hx fun w => by
    have := run_xor (P := P) (k := .u64) rfl (a := 18446744073709551615) (b := a) (by decide) (by simp only [IntKind.bits]; omega) w
    rw [Cx.not64 h] at this; exact this
theorem run_andK {k : IntKind} {a b : Nat} (ha : a < 2 ^ k.bits) (hb : b < 2 ^ k.bits) (hw : k.wrap ((a &&& b : Nat) : Int) = ((a &&& b : Nat) : Int)) (w : World) : (Op.intBits .and k (a : Int) (b : Int)).run P w = .ok (.int k ((a &&& b : Nat) : Int)) w := by
  simp [Op.intBits, Nat.mod_eq_of_lt ha, Nat.mod_eq_of_lt hb, hw]
theorem run_xorK {k : IntKind} {a b : Nat} (ha : a < 2 ^ k.bits) (hb : b < 2 ^ k.bits) (hw : k.wrap ((a ^^^ b : Nat) : Int) = ((a ^^^ b : Nat) : Int)) (w : World) : (Op.intBits .xor k (a : Int) (b : Int)).run P w = .ok (.int k ((a ^^^ b : Nat) : Int)) w := by
  simp [Op.intBits, Nat.mod_eq_of_lt ha, Nat.mod_eq_of_lt hb, hw]
theorem run_andI {a b : Nat} (ha : a < 9223372036854775808) (hb : b < 9223372036854775808) (w : World) : (Op.intBits .and .i64 (a : Int) (b : Int)).run P w = .ok (.int .i64 ((a &&& b : Nat) : Int)) w := by
  have h1 : a &&& b < 2 ^ 63 := Nat.and_lt_two_pow a (by simpa using hb)
  exact run_andK (k := .i64) (by simp only [IntKind.bits]; omega) (by simp only [IntKind.bits]; omega) (wr_i64 (by omega) (by omega)) w
theorem run_xorI {a b : Nat} (ha : a < 9223372036854775808) (hb : b < 9223372036854775808) (w : World) : (Op.intBits .xor .i64 (a : Int) (b : Int)).run P w = .ok (.int .i64 ((a ^^^ b : Nat) : Int)) w := by
  have h1 : a ^^^ b < 2 ^ 63 := Nat.xor_lt_two_pow (by simpa using ha) (by simpa using hb)
  exact run_xorK (k := .i64) (by simp only [IntKind.bits]; omega) (by simp only [IntKind.bits]; omega) (wr_i64 (by omega) (by omega)) w
theorem PS.andI {t u : TypeId} {x y : Operand} (a b : Nat) (ha : a < 9223372036854775808) (hb : b < 9223372036854775808) (hg : gd ops n env g = some true) (hx : ev n env x = some (.int .i64 (a : Int))) (hy : ev n env y = some (.int .i64 (b : Int))) :
    PS P ops n env L ⟨dst, .binOp .and t x y u, ty, pos, aft, g⟩ (.int .i64 ((a &&& b : Nat) : Int)) :=
  ⟨hg, fun a' w hf _ => by simp [execOp, hf.eval hx, hf.eval hy, eqGuard_int, Go.binOp, run_andI ha hb]⟩
theorem PS.xorI {t u : TypeId} {x y : Operand} (a b : Nat) (ha : a < 9223372036854775808) (hb : b < 9223372036854775808) (hg : gd ops n env g = some true) (hx : ev n env x = some (.int .i64 (a : Int))) (hy : ev n env y = some (.int .i64 (b : Int))) :
    PS P ops n env L ⟨dst, .binOp .xor t x y u, ty, pos, aft, g⟩ (.int .i64 ((a ^^^ b : Nat) : Int)) :=
  ⟨hg, fun a' w hf _ => by simp [execOp, hf.eval hx, hf.eval hy, eqGuard_int, Go.binOp, run_xorI ha hb]⟩
/-- A conversion to words of so many bits. -/
theorem PS.convM {s t : TypeId} {k k' : IntKind} [I : IntT P s k] [J : IntT P t k'] {x : Operand} (a m : Nat) (h : uns k' = true) (hm : m = a % 2 ^ k'.bits) (hg : gd ops n env g = some true) (hx : ev n env x = some (.int k (a : Int))) :
    PS P ops n env L ⟨dst, .convert s t x, ty, pos, aft, g⟩ (.int k' (m : Int)) := PS.convI hg hx (by rw [hm]; exact wrap_mod h a)
theorem PS.quoN {x y : Operand} {t u : TypeId} {k : IntKind} (a b : Nat) (hb : b ≠ 0) (h : uns k = true) (ha : a < 2 ^ k.bits) (hg : gd ops n env g = some true) (hx : ev n env x = some (.int k (a : Int))) (hy : ev n env y = some (.int k (b : Int))) :
    PS P ops n env L ⟨dst, .binOp .quo t x y u, ty, pos, aft, g⟩ (.int k ((a / b : Nat) : Int)) :=
  PS.quo hg hx hy (by omega) (by rw [tdiv_nn (by omega), ← Int.natCast_ediv]; exact wrap_uns h (Nat.lt_of_le_of_lt (Nat.div_le_self _ _) ha))
theorem PS.remN {x y : Operand} {t u : TypeId} {k : IntKind} (a b : Nat) (hb : b ≠ 0) (hg : gd ops n env g = some true) (hx : ev n env x = some (.int k (a : Int))) (hy : ev n env y = some (.int k (b : Int))) :
    PS P ops n env L ⟨dst, .binOp .rem t x y u, ty, pos, aft, g⟩ (.int k ((a % b : Nat) : Int)) :=
  PS.rem hg hx hy (by omega) (by rw [tmod_nn (by omega), ← Int.natCast_emod])
theorem PS.mulM {x y : Operand} {t u : TypeId} {k : IntKind} (a b : Nat) (h : uns k = true) (hg : gd ops n env g = some true) (hx : ev n env x = some (.int k (a : Int))) (hy : ev n env y = some (.int k (b : Int))) :
    PS P ops n env L ⟨dst, .binOp .mul t x y u, ty, pos, aft, g⟩ (.int k ((a * b % 2 ^ k.bits : Nat) : Int)) :=
  PS.mul hg hx hy (by rw [← Int.natCast_mul]; exact wrap_mod h _)
theorem PS.addM {x y : Operand} {t u : TypeId} {k : IntKind} (a b : Nat) (h : uns k = true) (hg : gd ops n env g = some true) (hx : ev n env x = some (.int k (a : Int))) (hy : ev n env y = some (.int k (b : Int))) :
    PS P ops n env L ⟨dst, .binOp .add t x y u, ty, pos, aft, g⟩ (.int k (((a + b) % 2 ^ k.bits : Nat) : Int)) :=
  PS.add hg hx hy (by rw [← Int.natCast_add]; exact wrap_mod h _)
end
end Go.Cx
