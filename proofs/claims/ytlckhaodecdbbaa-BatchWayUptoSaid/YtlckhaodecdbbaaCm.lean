/- Stepping: memory, control, calls. No program in sight. -/
import Derived.Test.YtlckhaodecdbbaaCx
import Derived.Laws.AppendOwn
import Derived.Laws.MakeOwn
import Derived.Laws.OwnMore
set_option linter.unusedSimpArgs false
set_option linter.unusedVariables false
namespace Go.Cx

/-! ### Facts on types -/
class TyS (P : Program) (t : TypeId) : Prop where
  agg : ∀ w, (isAgg t).run P w = .ok false w
  size : ∀ w, (sizeOf t).run P w = .ok 1 w
class TyG (P : Program) (t : TypeId) (sz : outParam Nat) : Prop where
  agg : ∀ w, (isAgg t).run P w = .ok true w
  size : ∀ w, (sizeOf t).run P w = .ok sz w
class SzT (P : Program) (t : TypeId) (sz : outParam Nat) : Prop where
  size : ∀ w, (sizeOf t).run P w = .ok sz w
class FldA (P : Program) (s i : Nat) (off : outParam Nat) : Prop where
  fld : ∃ fs f k, P.underlying s = some (.struct fs) ∧ fs[i]? = some f ∧ f.offset = off ∧ (∀ w, (sizeOf f.type).run P w = .ok (k + 1) w)
class ElemA (P : Program) (t : TypeId) (e sz : outParam Nat) : Prop where
  under : P.underlying t = some (.slice e)
  size : ∀ w, (sizeOf e).run P w = .ok sz w
class ArrA (P : Program) (t : TypeId) (len e sz : outParam Nat) : Prop where
  under : P.underlying t = some (.array len e)
  size : ∀ w, (sizeOf e).run P w = .ok sz w
class ZeroA (P : Program) (t : TypeId) (v : outParam Value) : Prop where
  zero : ∀ w, (zeroValue t).run P w = .ok v w
/-- A pointer's type. -/
class PtrA (P : Program) (t : TypeId) (d : outParam Nat) : Prop where
  hu : P.underlying t = some (.pointer d)
class HasFn (P : Program) (f : FuncId) : Prop where
  call : ∀ args w, (callFunc f args).run P w = .ok (.enter f args) w

/-! ### What is known of cells -/
def CellAt (L : List Assn) (b o : Nat) (v : Value) : Prop :=
  ∀ h, Sep L h → ∃ cs t fr, h b = some (.cells cs t fr) ∧ cs[o]? = some v
def CellsAt (L : List Assn) (b o : Nat) (vs : List Value) : Prop :=
  ∀ h, Sep L h → ∃ cs t fr, h b = some (.cells cs t fr) ∧ ∀ j v, vs[j]? = some v → cs[o + j]? = some v

theorem CellAt.pick {L L' : List Assn} {b t o : Nat} {cs : List Value} {v : Value} (p : Pick (bk b t cs) L L') (hc : cs[o]? = some v) : CellAt L b o v := fun h s => by
  have e := bk_ok.1 (p.ok s)
  exact ⟨_, _, _, e, by simpa using hc⟩
theorem CellsAt.pick {L L' : List Assn} {b t o : Nat} {cs vs : List Value} (p : Pick (bk b t cs) L L') (hc : (cs.drop o).take vs.length = vs) : CellsAt L b o vs := fun h s => by
  have e := bk_ok.1 (p.ok s)
  refine ⟨_, _, _, e, fun j v hv => ?_⟩
  have hj : j < vs.length := (List.getElem?_eq_some_iff.1 hv).1
  rw [← hc, List.getElem?_take] at hv
  simpa [hj] using hv
theorem CellAt.exact {L L' : List Assn} {x : PH} {b o : Nat} {v : Value} (p : Pick (exact x) L L') (hc : ∃ cs t fr, x b = some (.cells cs t fr) ∧ cs[o]? = some v) : CellAt L b o v := fun h s => by
  obtain ⟨cs, t, fr, e, hv⟩ := hc
  exact ⟨cs, t, fr, (p.ok s) _ _ e, hv⟩
theorem CellsAt.exact {L L' : List Assn} {x : PH} {b o : Nat} {vs : List Value} (p : Pick (exact x) L L') (hc : ∃ cs t fr, x b = some (.cells cs t fr) ∧ ∀ j v, vs[j]? = some v → cs[o + j]? = some v) : CellsAt L b o vs := fun h s => by
  obtain ⟨cs, t, fr, e, hv⟩ := hc
  exact ⟨cs, t, fr, (p.ok s) _ _ e, hv⟩

theorem cell_ph {w : World} {b o : Nat} {cs : Array Value} {t : TypeId} {fr : Nat × Nat} {v : Value} (h : w.ph b = some (.cells cs t fr)) (hv : cs[o]? = some v) : w.cell? ⟨b, o, none⟩ = some v := by
  simp only [World.ph] at h
  simp [World.cell?, h, hv]

theorem run_loadVarS {P : Program} {t : TypeId} [S : TyS P t] {w : World} {a : Addr} {v : Value} (h : w.cell? a = some v) : (loadVar t a).run P w = .ok v w := by
  simp [loadVar, S.agg w, load, Sem.run, h]
theorem run_loadVarG {P : Program} {t sz : Nat} [G : TyG P t sz] {w : World} {b o : Nat} {vs : List Value} (hl : vs.length = sz) (h : ∀ j v, vs[j]? = some v → w.cell? ⟨b, o + j, none⟩ = some v) :
    (loadVar t ⟨b, o, none⟩).run P w = .ok (.agg vs.toArray) w := by
  have hq := run_loadCells_list (P := P) w ⟨b, o, none⟩ vs (fun j v hv => by
    have : (⟨b, o, none⟩ : Addr).add j = ⟨b, o + j, none⟩ := by unfold Addr.add; split <;> simp_all
    rw [this]; exact h j v hv)
  rw [hl] at hq
  simp [loadVar, G.agg w, G.size w, hq]

theorem ph_setCell {w : World} {b o : Nat} {cs : Array Value} {t : TypeId} {fr : Nat × Nat} (h : w.ph b = some (.cells cs t fr)) (v : Value) :
    (w.setCell ⟨b, o, none⟩ v).ph = w.ph.put b (.cells (cs.setIfInBounds o v) t fr) := by
  funext c
  simp only [World.ph] at h
  simp only [World.ph, World.setCell, PH.put, Array.getElem?_modify]
  by_cases e : c = b
  · subst e; simp [h]
  · simp [e, Ne.symm e]

theorem run_store_ph {P : Program} {w : World} {b o : Nat} {cs : Array Value} {t : TypeId} {fr : Nat × Nat} (h : w.ph b = some (.cells cs t fr)) (ho : o < cs.size) (hf : cs.size ≤ fr.1 ∨ fr.2 ≤ fr.1) {v : Value} (hv : v.oneCell' = true) :
    (store ⟨b, o, none⟩ v).run P w = .ok () (w.setCell ⟨b, o, none⟩ v) := by
  have hc : w.cell? ⟨b, o, none⟩ = some cs[o] := cell_ph h (by simp [ho])
  have hfz : w.frozen? ⟨b, o, none⟩ = false := by
    simp only [World.ph] at h
    simp [World.frozen?, h]; omega
  cases v <;> simp_all [store, Sem.run, Value.oneCell']

def setL (cs : List Value) (o : Nat) (vs : List Value) : List Value := cs.take o ++ (vs ++ cs.drop (o + vs.length))

theorem setL_nil (cs : List Value) (o : Nat) : setL cs o [] = cs := by simp [setL]
theorem setL_cons (cs : List Value) (o : Nat) (v : Value) (vs : List Value) (h : o + (v :: vs).length ≤ cs.length) : setL (cs.set o v) (o + 1) vs = setL cs o (v :: vs) := by
  simp only [List.length_cons] at h
  unfold setL
  have h1 : (cs.set o v).take (o + 1) = cs.take o ++ [v] := by
    rw [List.take_set]
    apply List.ext_getElem?
    intro j
    by_cases hj : j < o
    · rw [List.getElem?_append_left (by simp; omega)]
      rw [List.getElem?_set_ne (by omega)]
      simp [hj, Nat.lt_succ_of_lt hj]
    · by_cases he : j = o
      · subst he
        rw [List.getElem?_append_right (by simp; omega)]
        rw [List.getElem?_set_self (by simp; omega)]
        simp [Nat.min_eq_left (show j ≤ cs.length by omega)]
      · rw [List.getElem?_eq_none (by simp; omega), List.getElem?_eq_none (by simp; omega)]
  rw [h1, List.drop_set_of_lt (by omega)]
  simp only [List.append_assoc, List.cons_append, List.nil_append, List.length_cons]
  congr 4
  omega
theorem length_setL (cs : List Value) (o : Nat) (vs : List Value) (h : o + vs.length ≤ cs.length) : (setL cs o vs).length = cs.length := by
  simp [setL]; omega

theorem run_storeCells_ph {P : Program} {b : Nat} {t : TypeId} {fr : Nat × Nat} (o : Nat) : ∀ (vs : List Value) (i : Nat) (cs : List Value) (w : World), w.ph b = some (.cells cs.toArray t fr) → o + i + vs.length ≤ cs.length →
    (cs.length ≤ fr.1 ∨ fr.2 ≤ fr.1) → (∀ v ∈ vs, v.oneCell' = true) →
    ∃ w', (storeCells ⟨b, o, none⟩ vs i).run P w = .ok () w' ∧ w'.ph = w.ph.put b (.cells (setL cs (o + i) vs).toArray t fr) ∧ Env0 w w'
  | [], i, cs, w, h, _, _, _ => by
    refine ⟨w, by simp [storeCells], ?_, Env0.refl w⟩
    rw [setL_nil]
    funext c; simp only [PH.put]; split
    · rename_i e; subst e; exact h
    · rfl
  | v :: vs, i, cs, w, h, hl, hf, h1 => by
    simp only [List.length_cons] at hl
    have ha : (⟨b, o, none⟩ : Addr).add i = ⟨b, o + i, none⟩ := by unfold Addr.add; split <;> simp_all
    have hs := run_store_ph (P := P) (o := o + i) h (by simp; omega) (by simpa using hf) (h1 v (by simp))
    have hp := ph_setCell (o := o + i) h v
    have hp' : (w.setCell ⟨b, o + i, none⟩ v).ph b = some (.cells (cs.set (o + i) v).toArray t fr) := by
      rw [hp]; simp [PH.put]
    obtain ⟨w', hr, hph, he⟩ := run_storeCells_ph (P := P) o vs (i + 1) (cs.set (o + i) v) _ hp' (by simp; omega) (by simpa using hf) (fun u hu => h1 u (by simp [hu]))
    refine ⟨w', by simp [storeCells, ha, hs, hr], ?_, Env0.trans (b := w.setCell ⟨b, o + i, none⟩ v) ⟨rfl, rfl, rfl⟩ he⟩
    rw [hph, hp, ← Nat.add_assoc, setL_cons cs (o + i) v vs (by simp; omega)]
    funext c; simp only [PH.put]; split <;> rfl

section
variable {P : Program} {ops : Array Oper} {Q : Exit → Act → World → Prop} {n : Nat} {e0 : World} {env : Env} {L : List Assn} {rest : List Oper}
variable {dst : Option Tmp} {ty : TypeId} {pos : String} {aft : Array Edge} {g : Option (Nat × Bool)} {op : Op}

theorem addr_add (b o k : Nat) : (⟨b, o, none⟩ : Addr).add k = ⟨b, o + k, none⟩ := by unfold Addr.add; split <;> simp_all

theorem PS.fieldAddr {s i off : Nat} [F : FldA P s i off] {x : Operand} {b o : Nat} (hg : gd ops n env g = some true) (hx : ev n env x = some (.pointer (some ⟨b, o, none⟩))) :
    PS P ops n env L ⟨dst, .fieldAddr s x i, ty, pos, aft, g⟩ (.pointer (some ⟨b, o + off, none⟩)) := by
  obtain ⟨fs, f, k, hu, hf, ho, hs⟩ := F.fld
  exact ⟨hg, (fun a w hfr _ => by simp [execOp, hfr.eval hx, Instr.fieldAt, run_underlying hu, hf, Instr.sureAddr, fieldPlace, hs w, ho, addr_add])⟩
theorem PS.indexAddr {t e sz : Nat} [E : ElemA P t e sz] {x y : Operand} {b o len cap j : Nat} {k : IntKind} {i : Int} (hg : gd ops n env g = some true) (hx : ev n env x = some (.slice (some ⟨b, o, none⟩) len cap))
    (hy : ev n env y = some (.int k i)) (hi : i = (j : Int)) (hl : j < len) :
    PS P ops n env L ⟨dst, .indexAddr t x y, ty, pos, aft, g⟩ (.pointer (some ⟨b, o + j * sz, none⟩)) := by
  subst hi
  exact ⟨hg, (fun a w hfr _ => by simp [execOp, hfr.eval hx, hfr.eval hy, Instr.indexAt, asIntOf, run_underlying E.under, E.size w, hl, addr_add])⟩
theorem PS.indexArr {t len e sz : Nat} [E : ArrA P t len e sz] {x y : Operand} {b o j : Nat} {k : IntKind} {i : Int} (hg : gd ops n env g = some true) (hx : ev n env x = some (.pointer (some ⟨b, o, none⟩)))
    (hy : ev n env y = some (.int k i)) (hi : i = (j : Int)) (hl : j < len) :
    PS P ops n env L ⟨dst, .indexAddr t x y, ty, pos, aft, g⟩ (.pointer (some ⟨b, o + j * sz, none⟩)) := by
  subst hi
  exact ⟨hg, (fun a w hfr _ => by simp [execOp, hfr.eval hx, hfr.eval hy, Instr.indexAt, asIntOf, run_underlying E.under, E.size w, hl, addr_add, Instr.sureAddr])⟩
theorem PS.load {t : Nat} [S : TyS P t] {x : Operand} {b o : Nat} {v : Value} (hg : gd ops n env g = some true) (hx : ev n env x = some (.pointer (some ⟨b, o, none⟩))) (hc : CellAt L b o v) :
    PS P ops n env L ⟨dst, .load t x, ty, pos, aft, g⟩ (v) :=
  ⟨hg, (fun a w hfr hs => by
    obtain ⟨cs, bt, fr, e, hv⟩ := hc _ hs
    simp [execOp, hfr.eval hx, Instr.loadAt, Instr.sureAddr, run_loadVarS (P := P) (t := t) (cell_ph e hv)])⟩
theorem PS.loadG {t sz : Nat} [G : TyG P t sz] {x : Operand} {b o : Nat} {vs : List Value} (hg : gd ops n env g = some true) (hx : ev n env x = some (.pointer (some ⟨b, o, none⟩))) (hc : CellsAt L b o vs) (hl : vs.length = sz) :
    PS P ops n env L ⟨dst, .load t x, ty, pos, aft, g⟩ (.agg vs.toArray) :=
  ⟨hg, (fun a w hfr hs => by
    obtain ⟨cs, bt, fr, e, hv⟩ := hc _ hs
    simp [execOp, hfr.eval hx, Instr.loadAt, Instr.sureAddr, run_loadVarG (P := P) (t := t) hl (fun j v hj => cell_ph e (hv j v hj))])⟩
/-- A store of a value of so many cells into a block that is known whole. -/
theorem CX.storeC {t sz : Nat} [Z : SzT P t sz] {x y : Operand} {b o bt : Nat} {cs : List Value} {v : Value} {L' : List Assn} (hg : gd ops n env g = some true) (hx : ev n env x = some (.pointer (some ⟨b, o, none⟩)))
    (hy : ev n env y = some v) (hv : v.cells.size = sz) (ho : ∀ u ∈ v.cells.toList, u.oneCell' = true) (hu : Upd (bk b bt cs) (bk b bt (setL cs o v.cells.toList)) L L') (hl : o + sz ≤ cs.length)
    (h : CX P ops Q n e0 (putE env dst undef) L' rest) : CX P ops Q n e0 env L (⟨dst, .store t x y, ty, pos, aft, g⟩ :: rest) := by
  refine CX.step hg fun a w hf hs he K hK => ?_
  obtain ⟨M, pa, _⟩ := hu.pick
  have e := bk_ok.1 (pa.ok hs)
  obtain ⟨w', hr, hph, he'⟩ := run_storeCells_ph (P := P) o v.cells.toList 0 cs w e (by simp [hv]; exact hl) (.inr (Nat.le_refl _)) ho
  have hrun : (execOp a.eval ⟨dst, .store t x y, ty, pos, aft, g⟩).run P w = .ok .skip w' := by
    simp [execOp, hf.eval hx, hf.eval hy, Instr.storeAt, Instr.sureAddr, storeVar, Z.size w, hv, hr]
  unfold Oper.wp
  rw [hrun]
  refine hK _ _ (h _ _ (hf.put dst undef) ?_ (he.trans he'))
  rw [hph]
  refine Sep.upd hu (fun k hok => ?_) (fun k hk hok => ?_) hs
  · simp [bk_ok.1 hok]
  · exact bk_ok.2 (by simp [PH.put])

theorem setL_one (cs : List Value) (o : Nat) (v : Value) (h : o < cs.length) : setL cs o [v] = cs.set o v := by
  have := setL_cons cs o v [] (by simp; omega)
  rw [setL_nil] at this; exact this.symm

theorem CX.store {t : Nat} [Z : SzT P t 1] {x y : Operand} {b o bt : Nat} {cs : List Value} {v : Value} {L' : List Assn} (hg : gd ops n env g = some true) (hx : ev n env x = some (.pointer (some ⟨b, o, none⟩)))
    (hy : ev n env y = some v) (hv : v.oneCell' = true) (hu : Upd (bk b bt cs) (bk b bt (cs.set o v)) L L') (hl : Nat.blt o cs.length = true)
    (h : CX P ops Q n e0 (putE env dst undef) L' rest) : CX P ops Q n e0 env L (⟨dst, .store t x y, ty, pos, aft, g⟩ :: rest) := by
  have hl' : o < cs.length := by have := Nat.le_of_ble_eq_true hl; omega
  have hc : v.cells = #[v] := by cases v <;> simp_all [Value.cells, Value.oneCell']
  refine CX.storeC (Z := Z) (cs := cs) (bt := bt) hg hx hy (by rw [hc]; rfl) (fun u hu => ?_) ?_ (by omega) h
  · rw [hc] at hu; simp at hu; rw [hu]; exact hv
  · rw [hc]; simp only [setL_one cs o v hl']; exact hu

theorem CX.alloc {t : Nat} {v : Value} [Z : ZeroA P t v] (hg : gd ops n env g = some true)
    (h : ∀ b, CX P ops Q n e0 (putE env dst (.pointer (some ⟨b, 0, none⟩))) (bk b t v.cells.toList :: L) rest) : CX P ops Q n e0 env L (⟨dst, .alloc t, ty, pos, aft, g⟩ :: rest) := by
  refine CX.step hg fun a w hf hs he K hK => ?_
  have hrun : (execOp a.eval ⟨dst, .alloc t, ty, pos, aft, g⟩).run P w = .ok (.value (.pointer (some ⟨w.heap.size, 0, none⟩))) (w.alloc (.cells v.cells t)) := by
    simp [execOp, Instr.alloc, Z.zero w, newVar, newRow, newObj, Sem.run]
  unfold Oper.wp
  rw [hrun]
  refine hK _ _ (h w.heap.size _ _ (hf.put dst _) ?_ (he.trans ⟨rfl, rfl, rfl⟩))
  have := hs.alloc t v.cells.toList
  simpa using this
theorem CX.box {t : Nat} {x : Operand} {v : Value} (hg : gd ops n env g = some true) (hx : ev n env x = some v)
    (h : ∀ b, CX P ops Q n e0 (putE env dst (.pointer (some ⟨b, 0, none⟩))) (bk b t v.cells.toList :: L) rest) : CX P ops Q n e0 env L (⟨dst, .box t x, ty, pos, aft, g⟩ :: rest) := by
  refine CX.step hg fun a w hf hs he K hK => ?_
  have hrun : (execOp a.eval ⟨dst, .box t x, ty, pos, aft, g⟩).run P w = .ok (.value (.pointer (some ⟨w.heap.size, 0, none⟩))) (w.alloc (.cells v.cells t)) := by
    simp [execOp, hf.eval hx, Instr.box, newVar, newRow, newObj, Sem.run]
  unfold Oper.wp
  rw [hrun]
  refine hK _ _ (h w.heap.size _ _ (hf.put dst _) ?_ (he.trans ⟨rfl, rfl, rfl⟩))
  have := hs.alloc t v.cells.toList
  simpa using this

/-! ### Built-in functions -/
theorem PS.lenSl {t : TypeId} {e sz : Nat} [E : ElemA P t e sz] {x : Operand} {a0 : Option Addr} {l c : Nat} (hg : gd ops n env g = some true) (hx : ev n env x = some (.slice a0 l c)) :
    PS P ops n env L ⟨dst, .call ⟨.builtin .len, #[x], #[t]⟩, ty, pos, aft, g⟩ (.int .i64 (l : Int)) :=
  ⟨hg, (fun a w hfr _ => by simp [execOp, resolve, hfr.eval hx, invoke, builtin, Builtin.len_, run_underlying E.under, goInt])⟩
theorem PS.capSl {t : TypeId} {e sz : Nat} [E : ElemA P t e sz] {x : Operand} {a0 : Option Addr} {l c : Nat} (hg : gd ops n env g = some true) (hx : ev n env x = some (.slice a0 l c)) :
    PS P ops n env L ⟨dst, .call ⟨.builtin .cap, #[x], #[t]⟩, ty, pos, aft, g⟩ (.int .i64 (c : Int)) :=
  ⟨hg, (fun a w hfr _ => by simp [execOp, resolve, hfr.eval hx, invoke, builtin, Builtin.cap_, run_underlying E.under, goInt])⟩
theorem PS.maxI {ts : Array TypeId} {x y : Operand} {k : IntKind} {p q : Int} (hg : gd ops n env g = some true) (hx : ev n env x = some (.int k p)) (hy : ev n env y = some (.int k q)) :
    PS P ops n env L ⟨dst, .call ⟨.builtin .max, #[x, y], ts⟩, ty, pos, aft, g⟩ (.int k (Max.max p q)) :=
  ⟨hg, (fun a w hfr _ => by
    have : (if q > p then q else p) = Max.max p q := by omega
    simp [execOp, resolve, hfr.eval hx, hfr.eval hy, invoke, builtin, Builtin.max_, Builtin.max2, this])⟩
theorem PS.minI {ts : Array TypeId} {x y : Operand} {k : IntKind} {p q : Int} (hg : gd ops n env g = some true) (hx : ev n env x = some (.int k p)) (hy : ev n env y = some (.int k q)) :
    PS P ops n env L ⟨dst, .call ⟨.builtin .min, #[x, y], ts⟩, ty, pos, aft, g⟩ (.int k (Min.min p q)) :=
  ⟨hg, (fun a w hfr _ => by
    have : (if q < p then q else p) = Min.min p q := by omega
    simp [execOp, resolve, hfr.eval hx, hfr.eval hy, invoke, builtin, Builtin.min_, Builtin.min2, this])⟩
/-! ### Comparisons with nil -/
theorem run_eqP {t d : TypeId} (hu : P.underlying t = some (.pointer d)) (v : Option Addr) (w : World) : (Go.binOp .eql t (.pointer v) (.pointer none)).run P w = .ok (.bool v.isNone) w := by
  have h : ∀ k : Nat, (Op.equalIn (k + 1) t (.pointer v) (.pointer none)).run P w = .ok v.isNone w := fun k => by cases v <;> simp [Op.equalIn, run_underlying hu]
  simp only [Go.binOp]
  simp [Op.equal, Op.maxDepth, h 9999]
theorem run_neP {t d : TypeId} (hu : P.underlying t = some (.pointer d)) (v : Option Addr) (w : World) : (Go.binOp .neq t (.pointer v) (.pointer none)).run P w = .ok (.bool v.isSome) w := by
  have h : ∀ k : Nat, (Op.equalIn (k + 1) t (.pointer v) (.pointer none)).run P w = .ok v.isNone w := fun k => by cases v <;> simp [Op.equalIn, run_underlying hu]
  simp only [Go.binOp]
  simp [Op.equal, Op.maxDepth, h 9999]
theorem run_eqS {t e : TypeId} (hu : P.underlying t = some (.slice e)) (v : Option Addr) (l c : Nat) (w : World) : (Go.binOp .eql t (.slice v l c) (.slice none 0 0)).run P w = .ok (.bool v.isNone) w := by
  have h : ∀ k : Nat, (Op.equalIn (k + 1) t (.slice v l c) (.slice none 0 0)).run P w = .ok v.isNone w := fun k => by cases v <;> simp [Op.equalIn, run_underlying hu]
  simp only [Go.binOp]
  simp [Op.equal, Op.maxDepth, h 9999]
theorem eval_const (a : Act) (v : Value) : a.eval (.const v) = v := rfl
theorem PS.eqlPtrNil {t u : TypeId} {d : Nat} [E : PtrA P t d] {x : Operand} {v : Option Addr} (hg : gd ops n env g = some true) (hx : ev n env x = some (.pointer v)) :
    PS P ops n env L ⟨dst, .binOp .eql t x (.const (.pointer none)) u, ty, pos, aft, g⟩ (.bool v.isNone) :=
  ⟨hg, (fun a w hfr _ => by simp [execOp, hfr.eval hx, eval_const, eqGuard, run_eqP E.hu])⟩
theorem PS.neqPtrNil {t u : TypeId} {d : Nat} [E : PtrA P t d] {x : Operand} {v : Option Addr} (hg : gd ops n env g = some true) (hx : ev n env x = some (.pointer v)) :
    PS P ops n env L ⟨dst, .binOp .neq t x (.const (.pointer none)) u, ty, pos, aft, g⟩ (.bool v.isSome) :=
  ⟨hg, (fun a w hfr _ => by simp [execOp, hfr.eval hx, eval_const, eqGuard, run_neP E.hu])⟩
theorem PS.eqlSlNil {t e sz : Nat} [E : ElemA P t e sz] {u : TypeId} {x : Operand} {v : Option Addr} {l c : Nat} (hg : gd ops n env g = some true) (hx : ev n env x = some (.slice v l c)) :
    PS P ops n env L ⟨dst, .binOp .eql t x (.const (.slice none 0 0)) u, ty, pos, aft, g⟩ (.bool v.isNone) :=
  ⟨hg, (fun a w hfr _ => by simp [execOp, hfr.eval hx, eval_const, eqGuard, run_eqS E.under])⟩
end
end Go.Cx
