/- More rules of stepping: whole composites, and what the disk needs. -/
import Derived.Test.YtlckhaodecdbbaaTy
import Derived.Test.YtlckhaodecdbbaaDkM
set_option linter.unusedVariables false
set_option linter.unusedSimpArgs false
namespace Go.Cx
theorem WB.len {b : Blk} (h : WB b) : (cb b).length = 128 := by rw [length_cb]; exact h
theorem eqI {k : IntKind} {a b : Int} (h : a = b) : some (Value.int k a) = some (Value.int k b) := by rw [h]
theorem CellsAt.all {L L' : List Assn} {b t : Nat} {cs : List Value} (p : Pick (bk b t cs) L L') : CellsAt L b 0 cs := CellsAt.pick p (by simp)
theorem Upd.of {A A' : Assn} {L L' : List Assn} (u : Upd A A' L L') : Upd A A' L L' := u
/-- So many cells stand at a place in what is not the function's own. -/
def rdx (a : Option Addr) (len : Nat) (vs : List Value) (x : PH) : Prop :=
  len = 0 ∨ ∃ g off cs t fr, a = some ⟨g, off, none⟩ ∧ x g = some (.cells cs t fr) ∧ ∀ j u, vs[j]? = some u → cs[off + j]? = some u
theorem rdx_mono {a : Option Addr} {len : Nat} {vs : List Value} {x y : PH} (h : rdx a len vs x) (l : Le x y) : rdx a len vs y :=
  h.imp id fun ⟨g, off, cs, t, fr, e1, e2, e3⟩ => ⟨g, off, cs, t, fr, e1, l _ _ e2, e3⟩
theorem rdx_RdS {L : List Assn} {a : Option Addr} {len : Nat} {vs : List Value} (r : RdS L a len vs) : ∀ y, Sep L y → rdx a len vs y := fun y hy => (r.2 y hy).2
section
variable {P : Program} {ops : Array Oper} {Q : Exit → Act → World → Prop} {n : Nat} {e0 : World} {env : Env} {L : List Assn} {rest : List Oper} {K : Act → World → Prop}
variable {dst : Option Tmp} {ty : TypeId} {pos : String} {aft : Array Edge} {g : Option (Nat × Bool)} {op : Op}
/-- A store of a whole block's cells. -/
theorem CX.storeAll {t sz : Nat} [Z : SzT P t sz] {x y : Operand} {b bt : Nat} {cs vs : List Value} {L' : List Assn} (hg : gd ops n env g = some true) (hx : ev n env x = some (.pointer (some ⟨b, 0, none⟩)))
    (hy : ev n env y = some (.agg vs.toArray)) (hu : Upd (bk b bt cs) (bk b bt vs) L L') (hv : vs.length = sz) (hc : cs.length = sz) (ho : ∀ u ∈ vs, u.oneCell' = true)
    (h : CX P ops Q n e0 (putE env dst undef) L' rest) : CX P ops Q n e0 env L (⟨dst, .store t x y, ty, pos, aft, g⟩ :: rest) := by
  have e : setL cs 0 (Value.agg vs.toArray).cells.toList = vs := by simp [setL, Value.cells, hv, hc, List.drop_of_length_le]
  refine CX.storeC (Z := Z) (cs := cs) (bt := bt) hg hx hy (by simpa [Value.cells] using hv) (by simpa [Value.cells] using ho) ?_ (by omega) h
  rw [e]; exact hu
theorem CX.boxG {t : Nat} {x : Operand} {vs : List Value} (hg : gd ops n env g = some true) (hx : ev n env x = some (.agg vs.toArray))
    (h : ∀ b, CX P ops Q n e0 (putE env dst (.pointer (some ⟨b, 0, none⟩))) (bk b t vs :: L) rest) : CX P ops Q n e0 env L (⟨dst, .box t x, ty, pos, aft, g⟩ :: rest) := CX.box hg hx h
theorem PS.buildZ {t len e sz : Nat} {z : Value} [A : ArrA P t len e sz] [Z : ZeroA P t z] {vs : List Value} (hg : gd ops n env g = some true) (hz : z.cells.toList = vs) : PS P ops n env L ⟨dst, .build t #[], ty, pos, aft, g⟩ (.agg vs.toArray) :=
  PS.buildArr (Z := Z) (parts := []) (vs := []) hg rfl (by subst hz; rfl)
theorem CQ.mem {L' : List Assn} (hl : ∀ h, Sep L h → Sep L' h) (h : CQ K n e0 env L') : CQ K n e0 env L := fun a w hf hsep he => h a w hf (hl _ hsep) he
theorem PS.eqlB {t u e : Nat} [A : ArrA P t 128 e 1] [I : IntT P e .u8] [G : EqG P t] {x y : Operand} {a b : Blk} (hg : gd ops n env g = some true)
    (hx : ev n env x = some (.agg (cb a).toArray)) (hy : ev n env y = some (.agg (cb b).toArray)) (h1 : WB a) (h2 : WB b) :
    PS P ops n env L ⟨dst, .binOp .eql t x y u, ty, pos, aft, g⟩ (.bool (decide (a = b))) := by
  have := PS.eqlArr (P := P) (ops := ops) (L := L) (dst := dst) (ty := ty) (pos := pos) (aft := aft) (t := t) (u := u) (k := .u8) (xs := ib a) (ys := ib b) hg hx hy (by rw [length_ib]; exact h1) (by rw [length_ib]; exact h2)
  have e : decide (ib a = ib b) = decide (a = b) := by simp only [ib_inj]
  rw [e] at this; exact this
theorem PS.neqB {t u e : Nat} [A : ArrA P t 128 e 1] [I : IntT P e .u8] [G : EqG P t] {x y : Operand} {a b : Blk} (hg : gd ops n env g = some true)
    (hx : ev n env x = some (.agg (cb a).toArray)) (hy : ev n env y = some (.agg (cb b).toArray)) (h1 : WB a) (h2 : WB b) :
    PS P ops n env L ⟨dst, .binOp .neq t x y u, ty, pos, aft, g⟩ (.bool (decide (a ≠ b))) := by
  have := PS.neqArr (P := P) (ops := ops) (L := L) (dst := dst) (ty := ty) (pos := pos) (aft := aft) (t := t) (u := u) (k := .u8) (xs := ib a) (ys := ib b) hg hx hy (by rw [length_ib]; exact h1) (by rw [length_ib]; exact h2)
  have e : decide (ib a ≠ ib b) = decide (a ≠ b) := by simp only [ne_eq, ib_inj]
  rw [e] at this; exact this
theorem PS.toT {o : Oper} {p : Prop} {_ : Decidable p} (h : PS P ops n env L o (.bool (decide p))) (hp : p) : PS P ops n env L o (.bool true) := by rw [decide_eq_true hp] at h; exact h
theorem PS.toF {o : Oper} {p : Prop} {_ : Decidable p} (h : PS P ops n env L o (.bool (decide p))) (hp : ¬ p) : PS P ops n env L o (.bool false) := by rw [decide_eq_false hp] at h; exact h
/-- Ways that meet again. -/
def JS {X : Type} (n : Nat) (e0 : World) (E : X → Env) (M : X → List Assn) (good : X → Prop) (a : Act) (w : World) : Prop := ∃ x, good x ∧ Fr n (E x) a ∧ Sep (M x) w.ph ∧ Env0 e0 w
theorem CC.join {c y : Code} {Q' : Exit → Act → World → Prop} {X : Type} (E : X → Env) (M : X → List Assn) (good : X → Prop) (h1 : CC P c (Exit.then (JS n e0 E M good) Q') n e0 env L) (h2 : ∀ x, good x → CC P y Q n e0 (E x) (M x)) :
    CC P c (Exit.then (y.wp P Q) Q') n e0 env L := fun a w hf hs he => Code.wp_mono (fun e a w h => by
      cases e with
      | normal => obtain ⟨x, hx, h1, h3, h4⟩ := h; exact h2 x hx a w h1 h3 h4
      | _ => exact h) (h1 a w hf hs he)
theorem CQ.joined {Q' : Exit → Act → World → Prop} {X : Type} {E : X → Env} {M : X → List Assn} {good : X → Prop} (x : X) (hx : good x) (hs : Sub env (E x)) {R : List Assn} (hl : Sel L (M x) R) :
    CQ (Exit.then (JS n e0 E M good) Q' .normal) n e0 env L := fun a w hf hsep he => ⟨x, hx, hf.sub hs, (hl.sep hsep).left, he⟩
/-- The first cells of an array that stands in memory. -/
theorem PS.sliceArrHi {t N e sz : Nat} [A : ArrA P t N e sz] {x y : Operand} {b o h : Nat} {k : IntKind} {z : Int} (hg : gd ops n env g = some true) (hx : ev n env x = some (.pointer (some ⟨b, o, none⟩)))
    (hy : ev n env y = some (.int k z)) (hz : z = (h : Int)) (hc : h ≤ N) :
    PS P ops n env L ⟨dst, .slice t x none (some y) none, ty, pos, aft, g⟩ (.slice (some ⟨b, o, none⟩) h N) := by
  subst hz
  have := PS.sliceArr (P := P) (ops := ops) (n := n) (env := env) (L := L) (dst := dst) (ty := ty) (pos := pos) (aft := aft) (g := g) (t := t) (lo := none) (hi := some y) (l := 0) (h := h) hg hx rfl (by simp [bndV, hy]) (.inl ⟨rfl, rfl⟩) (.inr ⟨k, rfl⟩) (Nat.zero_le _) hc
  have e : cutAt (some ⟨b, o, none⟩) 0 N sz = some ⟨b, o, none⟩ := by unfold cutAt; split <;> simp [addr_add]
  rw [e] at this; simpa using this
theorem PS.sliceHi {t e sz : Nat} [E : ElemA P t e sz] {x y : Operand} {a : Option Addr} {len cap h : Nat} {k : IntKind} {z : Int} (hg : gd ops n env g = some true) (hx : ev n env x = some (.slice a len cap)) (ha : a = none ∨ ∃ b o, a = some ⟨b, o, none⟩)
    (hy : ev n env y = some (.int k z)) (hz : z = (h : Int)) (hc : h ≤ cap) :
    PS P ops n env L ⟨dst, .slice t x none (some y) none, ty, pos, aft, g⟩ (.slice a h cap) := by
  subst hz
  have := PS.slice (P := P) (ops := ops) (n := n) (env := env) (L := L) (dst := dst) (ty := ty) (pos := pos) (aft := aft) (g := g) (t := t) (lo := none) (hi := some y) (l := 0) (h := h) hg hx rfl (by simp [bndV, hy]) (.inl ⟨rfl, rfl⟩) (.inr ⟨k, rfl⟩) (Nat.zero_le _) hc
  have e : cutAt a 0 cap sz = a := by
    rcases ha with rfl | ⟨b, o, rfl⟩ <;> unfold cutAt <;> split <;> simp [addr_add]
  rw [e] at this; simpa using this
/-- A slice from a place on, of one whose room reaches further. -/
theorem PS.sliceLo {t e sz : Nat} [E : ElemA P t e sz] {x y : Operand} {b o len cap l : Nat} {k : IntKind} {z : Int} (hg : gd ops n env g = some true) (hx : ev n env x = some (.slice (some ⟨b, o, none⟩) len cap))
    (hy : ev n env y = some (.int k z)) (hz : z = (l : Int)) (hl : l ≤ len) (hc : len ≤ cap) :
    PS P ops n env L ⟨dst, .slice t x (some y) none none, ty, pos, aft, g⟩ (.slice (some ⟨b, if cap = l then o else o + l * sz, none⟩) (len - l) (cap - l)) := by
  subst hz
  have := PS.slice (P := P) (ops := ops) (n := n) (env := env) (L := L) (dst := dst) (ty := ty) (pos := pos) (aft := aft) (g := g) (t := t) (lo := some y) (hi := none) (l := l) (h := len) hg hx (by simp [bndV, hy]) rfl (.inr ⟨k, rfl⟩) (.inl ⟨rfl, rfl⟩) hl hc
  have e : cutAt (some ⟨b, o, none⟩) l cap sz = some ⟨b, if cap = l then o else o + l * sz, none⟩ := by unfold cutAt; split <;> simp [addr_add]
  rw [e] at this; exact this
end
end Go.Cx
