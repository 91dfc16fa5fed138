/- Stepping: composite values, slice expressions, copy, comparison of arrays. No program in sight. -/
import Derived.Test.YtlckhaodecdbbaaCd
import Derived.ChangeKeysEq
set_option linter.unusedSimpArgs false
set_option linter.unusedVariables false
namespace Go.Cx

/-! ### Composite values -/
def fillL (place : Nat → Option (Nat × Nat)) (cells : List Value) : List (Nat × Value) → Option (List Value)
  | [] => some cells
  | (i, v) :: rest =>
    match place i with
    | none => none
    | some (off, size) => if v.cells.size = size ∧ off + v.cells.size ≤ cells.length then fillL place (setL cells off v.cells.toList) rest else none

theorem foldl_setL (vs : List Value) : ∀ (k off : Nat) (cs : Array Value), off + k + vs.length ≤ cs.size →
    (vs.zipIdx k).foldl (fun cs (c, j) => cs.setIfInBounds (off + j) c) cs = (setL cs.toList (off + k) vs).toArray := by
  induction vs with
  | nil => intro k off cs _; simp [setL_nil]
  | cons v vs ih =>
    intro k off cs h
    simp only [List.length_cons] at h
    simp only [List.zipIdx_cons, List.foldl_cons]
    rw [ih (k + 1) off (cs.setIfInBounds (off + k) v) (by simp; omega)]
    congr 1
    have := setL_cons cs.toList (off + k) v vs (by simp; omega)
    rw [← this]
    congr 1
    simp

theorem fill_eq (place : Nat → Option (Nat × Nat)) : ∀ (parts : List (Nat × Value)) (cells out : List Value), fillL place cells parts = some out → Instr.fill place cells.toArray parts = some out.toArray
  | [], cells, out, h => by simp [fillL] at h; simp [Instr.fill, h]
  | (i, v) :: rest, cells, out, h => by
    simp only [fillL] at h
    cases hp : place i with
    | none => rw [hp] at h; cases h
    | some os =>
      obtain ⟨off, size⟩ := os
      rw [hp] at h
      simp only at h
      split at h
      · rename_i hc
        simp only [Instr.fill, hp]
        have h1 : ¬ (v.cells.size ≠ size || decide (off + v.cells.size > cells.toArray.size)) = true := by
          simp; omega
        rw [if_neg h1]
        have h2 : v.cells.zipIdx.foldl (fun cs x => match x with | (c, j) => cs.setIfInBounds (off + j) c) cells.toArray = (setL cells off v.cells.toList).toArray := by
          have := foldl_setL v.cells.toList 0 off cells.toArray (by simp; omega)
          rw [← Array.foldl_toList, Array.toList_zipIdx]
          simpa using this
        rw [h2]
        exact fill_eq place rest _ out h
      · cases h

class PlcA (P : Program) (t : TypeId) (pl : outParam (List (Nat × Nat))) : Prop where
  plc : ∃ fs, P.underlying t = some (.struct fs) ∧ ∀ w, (fs.mapM fun f => do pure (f.offset, ← sizeOf f.type) : Sem (Array (Nat × Nat))).run P w = .ok pl.toArray w

def evp (n : Nat) (env : Env) : List (Nat × Operand) → Option (List (Nat × Value))
  | [] => some []
  | (i, x) :: r => match ev n env x, evp n env r with
    | some v, some vs => some ((i, v) :: vs)
    | _, _ => none
theorem Fr.evp {n : Nat} {env : Env} {a : Act} (f : Fr n env a) : ∀ {xs : List (Nat × Operand)} {vs : List (Nat × Value)}, Cx.evp n env xs = some vs → xs.map (fun (i, x) => (i, a.eval x)) = vs
  | [], vs, h => by simp [Cx.evp] at h; simp [h]
  | (i, x) :: r, vs, h => by
    simp only [Cx.evp] at h
    split at h
    · rename_i v us h1 h2
      cases h
      simp [f.eval h1, f.evp h2]
    · cases h

section
variable {P : Program} {ops : Array Oper} {Q : Exit → Act → World → Prop} {n : Nat} {e0 : World} {env : Env} {L : List Assn} {rest : List Oper}
variable {dst : Option Tmp} {ty : TypeId} {pos : String} {aft : Array Edge} {g : Option (Nat × Bool)} {op : Op}

theorem PS.build {t : TypeId} {pl : List (Nat × Nat)} {z : Value} [B : PlcA P t pl] [Z : ZeroA P t z] {parts : List (Nat × Operand)} {vs : List (Nat × Value)} {out : List Value} (hg : gd ops n env g = some true) (hx : evp n env parts = some vs)
    (hf : fillL (fun i => pl[i]?) z.cells.toList vs = some out) : PS P ops n env L ⟨dst, .build t parts.toArray, ty, pos, aft, g⟩ (.agg out.toArray) :=
  ⟨hg, fun a w hfr _ => by
    obtain ⟨fs, hu, hm⟩ := B.plc
    have h1 := hfr.evp hx
    have h2 := fill_eq _ _ _ _ hf
    have h3 : (Array.map (fun x => match x with | (i, x) => (i, a.eval x)) parts.toArray).toList = vs := by simpa using h1
    have hrun : (Instr.build t (parts.toArray.map fun (i, x) => (i, a.eval x))).run P w = .ok (.agg out.toArray) w := by
      simp only [Instr.build, Sem.run_bind, Z.zero w, Result.andThen_ok, run_underlying hu, hm w]
      have h4 : Instr.fill (fun x => pl.toArray[x]?) z.cells (Array.map (fun x => match x with | (i, x) => (i, a.eval x)) parts.toArray).toList = some out.toArray := by
        rw [h3]; simpa using h2
      rw [h4]
      simp
    simp only [execOp, Sem.run_bind, hrun, Result.andThen_ok, Sem.run_pure]⟩

theorem PS.buildArr {t len e sz : Nat} {z : Value} [A : ArrA P t len e sz] [Z : ZeroA P t z] {parts : List (Nat × Operand)} {vs : List (Nat × Value)} {out : List Value} (hg : gd ops n env g = some true) (hx : evp n env parts = some vs)
    (hf : fillL (fun i => some (i * sz, sz)) z.cells.toList vs = some out) : PS P ops n env L ⟨dst, .build t parts.toArray, ty, pos, aft, g⟩ (.agg out.toArray) :=
  ⟨hg, fun a w hfr _ => by
    have h1 := hfr.evp hx
    have h2 := fill_eq _ _ _ _ hf
    have h3 : (Array.map (fun x => match x with | (i, x) => (i, a.eval x)) parts.toArray).toList = vs := by simpa using h1
    have hrun : (Instr.build t (parts.toArray.map fun (i, x) => (i, a.eval x))).run P w = .ok (.agg out.toArray) w := by
      simp only [Instr.build, Sem.run_bind, Z.zero w, Result.andThen_ok, run_underlying A.under, A.size w]
      have h4 : Instr.fill (fun i => some (i * sz, sz)) z.cells (Array.map (fun x => match x with | (i, x) => (i, a.eval x)) parts.toArray).toList = some out.toArray := by
        rw [h3]; simpa using h2
      rw [h4]
      simp
    simp only [execOp, Sem.run_bind, hrun, Result.andThen_ok, Sem.run_pure]⟩

theorem CX.buildSl {t e sz : Nat} {z : Value} [E : ElemA P t e sz] [Z : ZeroA P e z] {len : Nat} {parts : List (Nat × Operand)} {vs : List (Nat × Value)} {out : List Value} (hg : gd ops n env g = some true) (hx : evp n env parts = some vs)
    (h0 : len * sz ≠ 0 ∧ len * sz ≤ 16777216) (hf : fillL (fun i => some (i * sz, sz)) ((Array.range (len * sz)).map (z.cells[· % z.cells.size]!)).toList vs = some out)
    (h : ∀ b, CX P ops Q n e0 (putE env dst (.slice (some ⟨b, 0, none⟩) len len)) (bk b e out :: L) rest) :
    CX P ops Q n e0 env L (⟨dst, .buildSlice t len parts.toArray, ty, pos, aft, g⟩ :: rest) := by
  refine CX.step hg fun a w hfr hs he K hK => ?_
  have h1 := hfr.evp hx
  have h2 := fill_eq _ _ _ _ hf
  have h3 : (Array.map (fun x => match x with | (i, x) => (i, a.eval x)) parts.toArray).toList = vs := by simpa using h1
  have hrun : (Instr.buildSlice t len (parts.toArray.map fun (i, x) => (i, a.eval x))).run P w = .ok (.slice (some ⟨w.heap.size, 0, none⟩) len len) (w.alloc (.cells out.toArray e)) := by
    simp only [Instr.buildSlice, Sem.run_bind, run_underlying E.under, Result.andThen_ok, E.size w]
    rw [if_neg (show ¬ len * sz > 2 ^ 24 by have := h0.2; omega), if_neg h0.1]
    have h4 : Instr.fill (fun i => some (i * sz, sz)) ((Array.range (len * sz)).map (z.cells[· % z.cells.size]!)) (Array.map (fun x => match x with | (i, x) => (i, a.eval x)) parts.toArray).toList = some out.toArray := by
      rw [h3]; rw [Array.toArray_toList] at h2; exact h2
    simp only [Sem.run_bind, Z.zero w, Result.andThen_ok, Sem.run_pure]
    rw [h4]
    simp [newRow, newObj, Sem.run]
  have hr2 : (execOp a.eval ⟨dst, .buildSlice t len parts.toArray, ty, pos, aft, g⟩).run P w = .ok (.value (.slice (some ⟨w.heap.size, 0, none⟩) len len)) (w.alloc (.cells out.toArray e)) := by
    simp only [execOp, Sem.run_bind, hrun, Result.andThen_ok, Sem.run_pure]
  unfold Oper.wp
  rw [hr2]
  exact hK _ _ (h w.heap.size _ _ (hfr.put dst _) (hs.alloc e out) (he.trans ⟨rfl, rfl, rfl⟩))

/-! ### Slice expressions -/
def bndV (n : Nat) (env : Env) : Option Operand → Option (Option Value)
  | none => some none
  | some x => (ev n env x).map some

theorem run_bound (k : IntKind) (j y : Nat) (code : BoundsCode) (hj : j ≤ y) (w : World) : (Instr.sliceBound (.int k (j : Int)) y code).run P w = .ok j w := by
  have h1 : (0 : Int) ≤ j ∧ (j : Int) ≤ y := by omega
  simp [Instr.sliceBound, asIntOf, h1]

/-- The place where a part begins: at the very end of the room the place is the old one. -/
def cutAt (a : Option Addr) (l m size : Nat) : Option Addr := if m = l then a else a.map (·.add (l * size))

/-- s[lo:hi], of a slice. -/
theorem PS.slice {t e sz : Nat} [E : ElemA P t e sz] {x : Operand} {lo hi : Option Operand} {a : Option Addr} {len cap l h : Nat} {vl vh : Option Value} (hg : gd ops n env g = some true) (hx : ev n env x = some (.slice a len cap))
    (hlo : bndV n env lo = some vl) (hhi : bndV n env hi = some vh) (hl : vl = none ∧ l = 0 ∨ ∃ k, vl = some (.int k (l : Int))) (hh : vh = none ∧ h = len ∨ ∃ k, vh = some (.int k (h : Int))) (hlh : l ≤ h) (hc : h ≤ cap) :
    PS P ops n env L ⟨dst, .slice t x lo hi none, ty, pos, aft, g⟩ (.slice (cutAt a l cap sz) (h - l) (cap - l)) :=
  ⟨hg, fun ac w hfr _ => by
    have e1 : lo.map ac.eval = vl := by
      cases lo with
      | none => simp [bndV] at hlo; simp [← hlo]
      | some y =>
        simp only [bndV, Option.map_eq_some_iff] at hlo
        obtain ⟨v, hv, rfl⟩ := hlo
        simp [hfr.eval hv]
    have e2 : hi.map ac.eval = vh := by
      cases hi with
      | none => simp [bndV] at hhi; simp [← hhi]
      | some y =>
        simp only [bndV, Option.map_eq_some_iff] at hhi
        obtain ⟨v, hv, rfl⟩ := hhi
        simp [hfr.eval hv]
    have hb : (Instr.sliceBounds true len cap vl vh none).run P w = .ok (l, h, cap) w := by
      rcases hl with ⟨rfl, rfl⟩ | ⟨k, rfl⟩ <;> rcases hh with ⟨rfl, rfl⟩ | ⟨k', rfl⟩ <;>
        simp [Instr.sliceBounds, run_bound (P := P) _ _ _ _ hlh, run_bound (P := P) _ _ _ _ hc]
    have hrun : (Instr.sliceAt t (.slice a len cap) vl vh none).run P w = .ok (.slice (cutAt a l cap sz) (h - l) (cap - l)) w := by
      simp only [Instr.sliceAt, Sem.run_bind, run_underlying E.under, Result.andThen_ok]
      simp only [Instr.slice, Sem.run_bind, run_underlying E.under, Result.andThen_ok, hb, E.size w]
      simp [cutAt]
    simp only [execOp, hfr.eval hx, e1, e2, Option.map_none, Sem.run_bind, hrun, Result.andThen_ok, Sem.run_pure]⟩

/-- s[lo:hi:max], of a slice. -/
theorem PS.slice3 {t e sz : Nat} [E : ElemA P t e sz] {x y : Operand} {lo hi : Option Operand} {a : Option Addr} {len cap l h m : Nat} {vl vh : Option Value} {km : IntKind} (hg : gd ops n env g = some true) (hx : ev n env x = some (.slice a len cap))
    (hlo : bndV n env lo = some vl) (hhi : bndV n env hi = some vh) (hmx : ev n env y = some (.int km (m : Int))) (hl : vl = none ∧ l = 0 ∨ ∃ k, vl = some (.int k (l : Int))) (hh : ∃ k, vh = some (.int k (h : Int))) (hlh : l ≤ h) (hc : h ≤ m) (hm : m ≤ cap) :
    PS P ops n env L ⟨dst, .slice t x lo hi (some y), ty, pos, aft, g⟩ (.slice (cutAt a l m sz) (h - l) (m - l)) :=
  ⟨hg, fun ac w hfr _ => by
    have e1 : lo.map ac.eval = vl := by
      cases lo with
      | none => simp [bndV] at hlo; simp [← hlo]
      | some y =>
        simp only [bndV, Option.map_eq_some_iff] at hlo
        obtain ⟨v, hv, rfl⟩ := hlo
        simp [hfr.eval hv]
    have e2 : hi.map ac.eval = vh := by
      cases hi with
      | none => simp [bndV] at hhi; simp [← hhi]
      | some y =>
        simp only [bndV, Option.map_eq_some_iff] at hhi
        obtain ⟨v, hv, rfl⟩ := hhi
        simp [hfr.eval hv]
    have hb : (Instr.sliceBounds true len cap vl vh (some (.int km (m : Int)))).run P w = .ok (l, h, m) w := by
      obtain ⟨k', rfl⟩ := hh
      rcases hl with ⟨rfl, rfl⟩ | ⟨k, rfl⟩ <;>
        simp [Instr.sliceBounds, run_bound (P := P) _ _ _ _ hlh, run_bound (P := P) _ _ _ _ hc, run_bound (P := P) _ _ _ _ hm]
    have hrun : (Instr.sliceAt t (.slice a len cap) vl vh (some (.int km (m : Int)))).run P w = .ok (.slice (cutAt a l m sz) (h - l) (m - l)) w := by
      simp only [Instr.sliceAt, Sem.run_bind, run_underlying E.under, Result.andThen_ok]
      simp only [Instr.slice, Sem.run_bind, run_underlying E.under, Result.andThen_ok, hb, E.size w]
      simp [cutAt]
    simp only [execOp, hfr.eval hx, e1, e2, Option.map_some, hfr.eval hmx, Sem.run_bind, hrun, Result.andThen_ok, Sem.run_pure]⟩

/-- arr[lo:hi], of an array's variable. -/
theorem PS.sliceArr {t N e sz : Nat} [A : ArrA P t N e sz] {x : Operand} {lo hi : Option Operand} {b o l h : Nat} {vl vh : Option Value} (hg : gd ops n env g = some true) (hx : ev n env x = some (.pointer (some ⟨b, o, none⟩)))
    (hlo : bndV n env lo = some vl) (hhi : bndV n env hi = some vh) (hl : vl = none ∧ l = 0 ∨ ∃ k, vl = some (.int k (l : Int))) (hh : vh = none ∧ h = N ∨ ∃ k, vh = some (.int k (h : Int))) (hlh : l ≤ h) (hc : h ≤ N) :
    PS P ops n env L ⟨dst, .slice t x lo hi none, ty, pos, aft, g⟩ (.slice (cutAt (some ⟨b, o, none⟩) l N sz) (h - l) (N - l)) :=
  ⟨hg, fun ac w hfr _ => by
    have e1 : lo.map ac.eval = vl := by
      cases lo with
      | none => simp [bndV] at hlo; simp [← hlo]
      | some y =>
        simp only [bndV, Option.map_eq_some_iff] at hlo
        obtain ⟨v, hv, rfl⟩ := hlo
        simp [hfr.eval hv]
    have e2 : hi.map ac.eval = vh := by
      cases hi with
      | none => simp [bndV] at hhi; simp [← hhi]
      | some y =>
        simp only [bndV, Option.map_eq_some_iff] at hhi
        obtain ⟨v, hv, rfl⟩ := hhi
        simp [hfr.eval hv]
    have hb : (Instr.sliceBounds false N N vl vh none).run P w = .ok (l, h, N) w := by
      rcases hl with ⟨rfl, rfl⟩ | ⟨k, rfl⟩ <;> rcases hh with ⟨rfl, rfl⟩ | ⟨k', rfl⟩ <;>
        simp [Instr.sliceBounds, run_bound (P := P) _ _ _ _ hlh, run_bound (P := P) _ _ _ _ hc]
    have hrun : (Instr.sliceAt t (.pointer (some ⟨b, o, none⟩)) vl vh none).run P w = .ok (.slice (cutAt (some ⟨b, o, none⟩) l N sz) (h - l) (N - l)) w := by
      simp only [Instr.sliceAt, Sem.run_bind, run_underlying A.under, Result.andThen_ok, hb, A.size w, Instr.sureAddr, Sem.run_pure]
      by_cases e : N = l <;> simp [cutAt, e]
    simp only [execOp, hfr.eval hx, e1, e2, Option.map_none, Sem.run_bind, hrun, Result.andThen_ok, Sem.run_pure]⟩
theorem PS.sliceArr3 {t N e sz : Nat} [A : ArrA P t N e sz] {x y : Operand} {lo hi : Option Operand} {b o l h m : Nat} {vl vh : Option Value} {km : IntKind} (hg : gd ops n env g = some true) (hx : ev n env x = some (.pointer (some ⟨b, o, none⟩)))
    (hlo : bndV n env lo = some vl) (hhi : bndV n env hi = some vh) (hmx : ev n env y = some (.int km (m : Int))) (hl : vl = none ∧ l = 0 ∨ ∃ k, vl = some (.int k (l : Int))) (hh : ∃ k, vh = some (.int k (h : Int))) (hlh : l ≤ h) (hc : h ≤ m) (hm : m ≤ N) :
    PS P ops n env L ⟨dst, .slice t x lo hi (some y), ty, pos, aft, g⟩ (.slice (cutAt (some ⟨b, o, none⟩) l m sz) (h - l) (m - l)) :=
  ⟨hg, fun ac w hfr _ => by
    have e1 : lo.map ac.eval = vl := by
      cases lo with
      | none => simp [bndV] at hlo; simp [← hlo]
      | some y =>
        simp only [bndV, Option.map_eq_some_iff] at hlo
        obtain ⟨v, hv, rfl⟩ := hlo
        simp [hfr.eval hv]
    have e2 : hi.map ac.eval = vh := by
      cases hi with
      | none => simp [bndV] at hhi; simp [← hhi]
      | some y =>
        simp only [bndV, Option.map_eq_some_iff] at hhi
        obtain ⟨v, hv, rfl⟩ := hhi
        simp [hfr.eval hv]
    have hb : (Instr.sliceBounds false N N vl vh (some (.int km (m : Int)))).run P w = .ok (l, h, m) w := by
      obtain ⟨k', rfl⟩ := hh
      rcases hl with ⟨rfl, rfl⟩ | ⟨k, rfl⟩ <;>
        simp [Instr.sliceBounds, run_bound (P := P) _ _ _ _ hlh, run_bound (P := P) _ _ _ _ hc, run_bound (P := P) _ _ _ _ hm]
    have hrun : (Instr.sliceAt t (.pointer (some ⟨b, o, none⟩)) vl vh (some (.int km (m : Int)))).run P w = .ok (.slice (cutAt (some ⟨b, o, none⟩) l m sz) (h - l) (m - l)) w := by
      simp only [Instr.sliceAt, Sem.run_bind, run_underlying A.under, Result.andThen_ok, hb, A.size w, Instr.sureAddr, Sem.run_pure]
      by_cases e : m = l <;> simp [cutAt, e]
    simp only [execOp, hfr.eval hx, e1, e2, Option.map_some, hfr.eval hmx, Sem.run_bind, hrun, Result.andThen_ok, Sem.run_pure]⟩

/-! ### Arrays compared -/
theorem run_partS {e : TypeId} (hs : ∀ w, (isAgg e).run P w = .ok false w) (w : World) (cs : Array Value) (j : Nat) (v : Value) (h : cs[j]? = some v) : (part e cs j).run P w = .ok v w := by
  simp [part, hs w, h]
theorem run_eqItems {e : TypeId} {k : IntKind} (hu : P.underlying e = some (.int k)) (hs : ∀ w, (isAgg e).run P w = .ok false w) (d : Nat) (w : World) (xs ys : List Int) (hl : xs.length = ys.length) :
    ∀ (m j : Nat), j + m = xs.length → (Op.eqItems (d + 1) e 1 (xs.map (Value.int k)).toArray (ys.map (Value.int k)).toArray (List.range' j m)).run P w = .ok (decide (xs.drop j = ys.drop j)) w := by
  intro m
  induction m with
  | zero =>
    intro j hj
    rw [List.drop_of_length_le (by omega), List.drop_of_length_le (by omega)]
    simp [Op.eqItems]
  | succ m ih =>
    intro j hj
    have hx : j < xs.length := by omega
    have hy : j < ys.length := by omega
    have e1 := run_partS (P := P) hs w (xs.map (Value.int k)).toArray j (.int k xs[j]) (by simp [hx])
    have e2 := run_partS (P := P) hs w (ys.map (Value.int k)).toArray j (.int k ys[j]) (by simp [hy])
    have e3 : (Op.equalIn (d + 1) e (.int k xs[j]) (.int k ys[j])).run P w = .ok (xs[j] == ys[j]) w := by simp [Op.equalIn, run_underlying hu]
    simp only [List.range'_succ, Op.eqItems, Nat.mul_one, Sem.run_bind, e1, e2, e3, Result.andThen_ok]
    have hd : (xs.drop j = ys.drop j) ↔ (xs[j] = ys[j] ∧ xs.drop (j + 1) = ys.drop (j + 1)) := by
      rw [List.drop_eq_getElem_cons hx, List.drop_eq_getElem_cons hy, List.cons.injEq]
    by_cases h : xs[j] = ys[j]
    · have := ih (j + 1) (by omega)
      simp only [h, beq_self_eq_true, Bool.not_true, Bool.false_eq_true, if_false, this, hd, true_and]
    · have hn : ¬ xs.drop j = ys.drop j := fun e => h (hd.1 e).1
      simp [h, hn]

class FldS (P : Program) (s i : Nat) (off : outParam Nat) : Prop where
  fld : ∃ fs f, P.underlying s = some (.struct fs) ∧ fs[i]? = some f ∧ f.offset = off ∧ (∀ w, (isAgg f.type).run P w = .ok false w)
theorem PS.fieldS {s i off : Nat} [F : FldS P s i off] {x : Operand} {cs : Array Value} {v : Value} (hg : gd ops n env g = some true) (hx : ev n env x = some (.agg cs)) (hc : cs[off]? = some v) :
    PS P ops n env L ⟨dst, .field s x i, ty, pos, aft, g⟩ v := by
  obtain ⟨fs, f, hu, hf, ho, hs⟩ := F.fld
  subst ho
  exact ⟨hg, (fun a w hfr _ => by simp [execOp, hfr.eval hx, Instr.field, run_underlying hu, hf, asAgg, part, hs w, hc])⟩
theorem PS.indexS {t len e sz : Nat} [A : ArrA P t len e sz] [S : TyS P e] {x y : Operand} {cs : Array Value} {v : Value} {k : IntKind} {i : Int} {j : Nat} (hg : gd ops n env g = some true) (hx : ev n env x = some (.agg cs)) (hy : ev n env y = some (.int k i)) (hi : i = (j : Int)) (hl : j < len)
    (hc : cs[j]? = some v) : PS P ops n env L ⟨dst, .index t x y, ty, pos, aft, g⟩ v := by
  subst hi
  exact ⟨hg, (fun a w hfr _ => by simp [execOp, hfr.eval hx, hfr.eval hy, Instr.index, asIntOf, run_underlying A.under, hl, S.size w, part, S.agg w, hc])⟩
class StrT (P : Program) (t : TypeId) : Prop where
  under : P.underlying t = some .string
class EqG (P : Program) (t : TypeId) : Prop where
  eqg : P.eqGuardType P.depth t = false
class IntT (P : Program) (t : TypeId) (k : outParam IntKind) : Prop where
  under : P.underlying t = some (.int k)
  agg : ∀ w, (isAgg t).run P w = .ok false w
  inf : (P.info? t).map (·.size) = some 1

theorem run_eqArr {t len e sz : Nat} {k : IntKind} [A : ArrA P t len e sz] [I : IntT P e k] (xs ys : List Int) (hx : xs.length = len) (hy : ys.length = len) (d : Nat) (w : World) :
    (Op.equalIn (d + 2) t (.agg (xs.map (Value.int k)).toArray) (.agg (ys.map (Value.int k)).toArray)).run P w = .ok (decide (xs = ys)) w := by
  obtain ⟨i, hi, hsz⟩ := Option.map_eq_some_iff.1 I.inf
  have hc : P.cellsOf e = 1 := by simp [Program.cellsOf, hi, hsz]
  have := run_equalIn_array (P := P) (w := w) (d + 1) (xs.map (Value.int k)).toArray (ys.map (Value.int k)).toArray A.under hi
  rw [this, hc, List.range_eq_range', run_eqItems I.under I.agg d w xs ys (by omega) len 0 (by omega)]
  simp

theorem PS.convI {s t : TypeId} {k k' : IntKind} [I : IntT P s k] [J : IntT P t k'] {x : Operand} {p z : Int} (hg : gd ops n env g = some true) (hx : ev n env x = some (.int k p)) (hz : k'.wrap p = z) :
    PS P ops n env L ⟨dst, .convert s t x, ty, pos, aft, g⟩ (.int k' z) := PS.conv I.under J.under hg hx hz
theorem PS.eqlArr {t u len e sz : Nat} {k : IntKind} [A : ArrA P t len e sz] [I : IntT P e k] [G : EqG P t] {x y : Operand} {xs ys : List Int} (hg : gd ops n env g = some true)
    (hx : ev n env x = some (.agg (xs.map (Value.int k)).toArray)) (hy : ev n env y = some (.agg (ys.map (Value.int k)).toArray)) (h1 : xs.length = len) (h2 : ys.length = len) :
    PS P ops n env L ⟨dst, .binOp .eql t x y u, ty, pos, aft, g⟩ (.bool (decide (xs = ys))) :=
  ⟨hg, fun a w hfr _ => by
    have hq : (eqGuard .eql t x y (.agg (xs.map (Value.int k)).toArray) (.agg (ys.map (Value.int k)).toArray)).run P w = .ok () w := by simp [eqGuard, run_program, G.eqg]
    have hr := run_eqArr (P := P) (t := t) xs ys h1 h2 9998 w
    simp only [execOp, hfr.eval hx, hfr.eval hy, Sem.run_bind, hq, Result.andThen_ok]
    simp only [Go.binOp]
    simp [Op.equal, Op.maxDepth, hr]⟩
theorem PS.neqArr {t u len e sz : Nat} {k : IntKind} [A : ArrA P t len e sz] [I : IntT P e k] [G : EqG P t] {x y : Operand} {xs ys : List Int} (hg : gd ops n env g = some true)
    (hx : ev n env x = some (.agg (xs.map (Value.int k)).toArray)) (hy : ev n env y = some (.agg (ys.map (Value.int k)).toArray)) (h1 : xs.length = len) (h2 : ys.length = len) :
    PS P ops n env L ⟨dst, .binOp .neq t x y u, ty, pos, aft, g⟩ (.bool (decide (xs ≠ ys))) :=
  ⟨hg, fun a w hfr _ => by
    have hq : (eqGuard .neq t x y (.agg (xs.map (Value.int k)).toArray) (.agg (ys.map (Value.int k)).toArray)).run P w = .ok () w := by simp [eqGuard, run_program, G.eqg]
    have hr := run_eqArr (P := P) (t := t) xs ys h1 h2 9998 w
    simp only [execOp, hfr.eval hx, hfr.eval hy, Sem.run_bind, hq, Result.andThen_ok]
    simp only [Go.binOp]
    simp [Op.equal, Op.maxDepth, hr]⟩

/-! ### copy -/
theorem run_first {sa : Option Addr} {sl sc m : Nat} {news : List Value} {w : World} (hr : RdS L sa sl news) (hs : Sep L w.ph) (hm : m ≤ sl) :
    (Builtin.firstCells 1 m (.slice sa sl sc)).run P w = .ok (news.take m).toArray w := by
  obtain ⟨h1, h2⟩ := hr
  obtain ⟨hl, hc⟩ := h2 _ hs
  rcases hc with h0 | ⟨q, off, cs, t, fr, rfl, hq, hcell⟩
  · subst h0
    obtain rfl : m = 0 := by omega
    cases sa <;> simp [Builtin.firstCells, loadCells, loadCellsFrom]
  · have hlen : (news.take m).length = m := by simp; omega
    have := run_loadCells_list (P := P) w ⟨q, off, none⟩ (news.take m) (fun j v hv => by
      rw [addr_add]
      rw [List.getElem?_take] at hv
      split at hv
      · exact cell_ph hq (hcell j v hv)
      · cases hv)
    rw [hlen] at this
    simp [Builtin.firstCells, this]

theorem CX.copyOwn {t u e e' s : Nat} [E : ElemA P t e 1] {x y : Operand} {b o dl dc k cap sl sc m : Nat} {sa : Option Addr} {xs news : List Value} {M : List Assn} (hg : gd ops n env g = some true)
    (hx : ev n env x = some (.slice (some ⟨b, o, none⟩) dl dc)) (hy : ev n env y = some (.slice sa sl sc)) (hr : RdS L sa sl news) (p : Pick (own e' s (some ⟨b, 0, none⟩) k cap xs) L M) (hm : m = Nat.min sl dl) (hl : o + m ≤ k * s)
    (h : CX P ops Q n e0 (putE env dst (.int .i64 (m : Int))) (own e' s (some ⟨b, 0, none⟩) k cap (setL xs o (news.take m)) :: M) rest) :
    CX P ops Q n e0 env L (⟨dst, .call ⟨.builtin .copy, #[x, y], #[t, u]⟩, ty, pos, aft, g⟩ :: rest) := by
  refine CX.step hg fun a w hf hs he K hK => ?_
  obtain ⟨q1, q2, q3, q4⟩ := own_ok.1 (p.ok hs)
  rcases q4 with ⟨hh, _⟩ | ⟨b', cur, e1, hgc, hsz, ht⟩
  · cases hh
  simp only [Option.some.injEq, Addr.mk.injEq, and_true, true_and] at e1
  subst e1
  have hle : k * s ≤ cap * s := Nat.mul_le_mul_right _ q2
  have hms : m ≤ sl := by subst hm; exact Nat.min_le_left _ _
  have hfirst := run_first (P := P) (sc := sc) hr hs hms
  have hlen : (news.take m).length = m := by
    obtain ⟨hl2, _⟩ := hr.2 _ hs
    simp; omega
  obtain ⟨w', hrs, hph, he'⟩ := run_storeCells_ph (P := P) o (news.take m) 0 cur.toList w (by simpa using hgc) (by rw [hlen]; simp; omega) (.inr (Nat.le_refl _)) (fun v hv => hr.1 v (List.mem_of_mem_take hv))
  have hrun : (execOp a.eval ⟨dst, .call ⟨.builtin .copy, #[x, y], #[t, u]⟩, ty, pos, aft, g⟩).run P w = .ok (.value (.int .i64 (m : Int))) w' := by
    rw [hm] at hfirst hrs
    simp [execOp, resolve, invoke, builtin, hf.eval hx, hf.eval hy, Builtin.copy_, run_underlying E.under, Builtin.lenOf, E.size w, hfirst, hrs, goInt, hm]
  unfold Oper.wp
  rw [hrun]
  refine hK _ _ (h _ _ (hf.put dst _) ?_ (he.trans he'))
  rw [hph]
  refine Sep.upd (.head _) (fun q hq => ?_) (fun q hq hok => ?_) (p.sep hs)
  · obtain ⟨_, _, _, r4⟩ := own_ok.1 hq
    rcases r4 with ⟨hh, _⟩ | ⟨b', c', e', hc, _⟩
    · cases hh
    · simp only [Option.some.injEq, Addr.mk.injEq, and_true, true_and] at e'
      subst e'; simp [hc]
  · refine own_ok.2 ⟨?_, q2, q3, .inr ⟨b, _, rfl, by simp [PH.put]; rfl, ?_, ?_⟩⟩
    · rw [length_setL _ _ _ (by rw [hlen]; omega)]; exact q1
    · simp; rw [length_setL _ _ _ (by rw [hlen]; simp; omega)]; simpa using hsz
    · rw [← ht]
      simp only [setL, List.take_append, List.length_take, Array.length_toList]
      have hmn : min m news.length = m := by simpa using hlen
      have h1 : min o cur.size = o := by omega
      have h2 : min o (min (k * s) cur.size) = o := by omega
      simp only [List.take_take, h1, Nat.zero_add, hmn]
      have h3 : min (k * s) o = o := by omega
      have h4 : min o (k * s) = o := by omega
      have h5 : min (k * s - o) m = m := by omega
      rw [h3, h4, h5]
      congr 2
      rw [List.drop_take]
      congr 1
      omega

theorem CX.copyBk {t u e bt : Nat} [E : ElemA P t e 1] {x y : Operand} {b o dl dc sl sc m : Nat} {sa : Option Addr} {xs news : List Value} {L' : List Assn} (hg : gd ops n env g = some true)
    (hx : ev n env x = some (.slice (some ⟨b, o, none⟩) dl dc)) (hy : ev n env y = some (.slice sa sl sc)) (hr : RdS L sa sl news) (p : Upd (bk b bt xs) (bk b bt (setL xs o (news.take m))) L L') (hm : m = Nat.min sl dl) (hl : o + m ≤ xs.length)
    (h : CX P ops Q n e0 (putE env dst (.int .i64 (m : Int))) L' rest) :
    CX P ops Q n e0 env L (⟨dst, .call ⟨.builtin .copy, #[x, y], #[t, u]⟩, ty, pos, aft, g⟩ :: rest) := by
  refine CX.step hg fun a w hf hs he K hK => ?_
  obtain ⟨M, pa, _⟩ := p.pick
  have e1 := bk_ok.1 (pa.ok hs)
  have hms : m ≤ sl := by subst hm; exact Nat.min_le_left _ _
  have hfirst := run_first (P := P) (sc := sc) hr hs hms
  have hlen : (news.take m).length = m := by
    obtain ⟨hl2, _⟩ := hr.2 _ hs
    simp; omega
  obtain ⟨w', hrs, hph, he'⟩ := run_storeCells_ph (P := P) o (news.take m) 0 xs w e1 (by rw [hlen]; omega) (.inr (Nat.le_refl _)) (fun v hv => hr.1 v (List.mem_of_mem_take hv))
  have hrun : (execOp a.eval ⟨dst, .call ⟨.builtin .copy, #[x, y], #[t, u]⟩, ty, pos, aft, g⟩).run P w = .ok (.value (.int .i64 (m : Int))) w' := by
    rw [hm] at hfirst hrs
    simp [execOp, resolve, invoke, builtin, hf.eval hx, hf.eval hy, Builtin.copy_, run_underlying E.under, Builtin.lenOf, E.size w, hfirst, hrs, goInt, hm]
  unfold Oper.wp
  rw [hrun]
  refine hK _ _ (h _ _ (hf.put dst _) ?_ (he.trans he'))
  rw [hph]
  refine Sep.upd p (fun q hq => ?_) (fun q hq hok => ?_) hs
  · simp [bk_ok.1 hq]
  · exact bk_ok.2 (by simp [PH.put])

/-! ### A part of the memory behind a word, opened and shut -/
/-- There is an x that fits, and so the parts that it tells of stand side by side. -/
@[irreducible] def exA {X : Type} (good : X → Prop) (M : X → List Assn) : Assn where
  ok h := ∃ x, good x ∧ Sep (M x) h
  mono := fun _ _ l ⟨x, hx, s⟩ => ⟨x, hx, s.mono l⟩
theorem exA_ok {X : Type} {good : X → Prop} {M : X → List Assn} {h : PH} : (exA good M).ok h ↔ ∃ x, good x ∧ Sep (M x) h := by unfold exA; exact Iff.rfl

theorem Sep.open {X : Type} {good : X → Prop} {M : X → List Assn} {L' : List Assn} {h : PH} (p : Pick (exA good M) L L') (s : Sep L h) : ∃ x, good x ∧ Sep (M x ++ L') h := by
  obtain ⟨S, a, b⟩ := p.sep s
  obtain ⟨x, hx, sx⟩ := exA_ok.1 a
  exact ⟨x, hx, Sep.join S sx b⟩
theorem Sep.shut {X : Type} {good : X → Prop} {M : X → List Assn} {L' : List Assn} {h : PH} (x : X) (hx : good x) (p : Sel L (M x) L') (s : Sep L h) : Sep (exA good M :: L') h := by
  obtain ⟨S, a, b⟩ := (p.sep s).append
  exact ⟨S, exA_ok.2 ⟨x, hx, a⟩, b⟩

theorem CC.open {c : Code} {X : Type} {good : X → Prop} {M : X → List Assn} {L' : List Assn} (p : Pick (exA good M) L L') (h : ∀ x, good x → CC P c Q n e0 env (M x ++ L')) : CC P c Q n e0 env L := fun a w hf hs he => by
  obtain ⟨x, hx, s⟩ := hs.open p
  exact h x hx a w hf s he
theorem CX.open {X : Type} {good : X → Prop} {M : X → List Assn} {L' : List Assn} (p : Pick (exA good M) L L') (h : ∀ x, good x → CX P ops Q n e0 env (M x ++ L') rest) : CX P ops Q n e0 env L rest := fun a w hf hs he => by
  obtain ⟨x, hx, s⟩ := hs.open p
  exact h x hx a w hf s he
theorem CC.shut {c : Code} {X : Type} {good : X → Prop} {M : X → List Assn} {L' : List Assn} (x : X) (hx : good x) (p : Sel L (M x) L') (h : CC P c Q n e0 env (exA good M :: L')) : CC P c Q n e0 env L := fun a w hf hs he => h a w hf (hs.shut x hx p) he
theorem CX.shut {X : Type} {good : X → Prop} {M : X → List Assn} {L' : List Assn} (x : X) (hx : good x) (p : Sel L (M x) L') (h : CX P ops Q n e0 env (exA good M :: L') rest) : CX P ops Q n e0 env L rest := fun a w hf hs he => h a w hf (hs.shut x hx p) he
theorem CQ.shut {K : Act → World → Prop} {X : Type} {good : X → Prop} {M : X → List Assn} {L' : List Assn} (x : X) (hx : good x) (p : Sel L (M x) L') (h : CQ K n e0 env (exA good M :: L')) : CQ K n e0 env L := fun a w hf hs he => h a w hf (hs.shut x hx p) he
theorem CX.openL {A : Assn} {X : Type} {good : X → Prop} {M : X → List Assn} {L' : List Assn} (e : A = exA good M) (p : Pick A L L') (h : ∀ x, good x → CX P ops Q n e0 env (M x ++ L') rest) : CX P ops Q n e0 env L rest := by subst e; exact CX.open p h
theorem CC.openL {c : Code} {A : Assn} {X : Type} {good : X → Prop} {M : X → List Assn} {L' : List Assn} (e : A = exA good M) (p : Pick A L L') (h : ∀ x, good x → CC P c Q n e0 env (M x ++ L')) : CC P c Q n e0 env L := by subst e; exact CC.open p h
theorem CX.shutL {A : Assn} {X : Type} {good : X → Prop} {M : X → List Assn} {L' : List Assn} (e : A = exA good M) (x : X) (hx : good x) (p : Sel L (M x) L') (h : CX P ops Q n e0 env (A :: L') rest) : CX P ops Q n e0 env L rest := by subst e; exact CX.shut x hx p h
theorem CQ.shutL {K : Act → World → Prop} {A : Assn} {X : Type} {good : X → Prop} {M : X → List Assn} {L' : List Assn} (e : A = exA good M) (x : X) (hx : good x) (p : Sel L (M x) L') (h : CQ K n e0 env (A :: L')) : CQ K n e0 env L := by subst e; exact CQ.shut x hx p h
theorem CC.shutL {c : Code} {A : Assn} {X : Type} {good : X → Prop} {M : X → List Assn} {L' : List Assn} (e : A = exA good M) (x : X) (hx : good x) (p : Sel L (M x) L') (h : CC P c Q n e0 env (A :: L')) : CC P c Q n e0 env L := by subst e; exact CC.shut x hx p h
theorem CX.allocAs {t : Nat} {v : Value} [Z : ZeroA P t v] (cs : List Value) (hv : v.cells.toList = cs) (hg : gd ops n env g = some true)
    (h : ∀ b, CX P ops Q n e0 (putE env dst (.pointer (some ⟨b, 0, none⟩))) (bk b t cs :: L) rest) : CX P ops Q n e0 env L (⟨dst, .alloc t, ty, pos, aft, g⟩ :: rest) := by
  subst hv; exact CX.alloc hg h
theorem CX.ownNil (e sz : Nat) (h : CX P ops Q n e0 env (own e sz none 0 0 [] :: L) rest) : CX P ops Q n e0 env L rest := fun a w hf hs he => h a w hf (hs.ownNil e sz) he
theorem CC.ownNil {c : Code} (e sz : Nat) (h : CC P c Q n e0 env (own e sz none 0 0 [] :: L)) : CC P c Q n e0 env L := fun a w hf hs he => h a w hf (hs.ownNil e sz) he
theorem CQ.ownNil {K : Act → World → Prop} (e sz : Nat) (h : CQ K n e0 env (own e sz none 0 0 [] :: L)) : CQ K n e0 env L := fun a w hf hs he => h a w hf (hs.ownNil e sz) he
end
end Go.Cx
