/- Rows and changes in memory; strings' rules. No program in sight. -/
import Derived.Test.YtlckhaodecdbbaaBy
import Derived.Test.YtlckhaodecdbbaaBa
import Derived.Test.YtlckhaodecdbbaaRg
import Derived.Test.YtlckhaodecdbbaaRb
import Derived.Test.YtlckhaodecdbbaaSt
import Derived.Laws.IdiomStrings
set_option linter.unusedVariables false
set_option linter.unusedSimpArgs false
namespace Go.Cx
section
variable {P : Program} {ops : Array Oper} {Q : Exit → Act → World → Prop} {n : Nat} {e0 : World} {env : Env} {L L' : List Assn} {rest : List Oper}
variable {dst : Option Tmp} {ty : TypeId} {pos : String} {aft : Array Edge} {g : Option (Nat × Bool)}
theorem PS.lenStr {t : TypeId} [S : StrT P t] {x : Operand} {b : Blk} (hg : gd ops n env g = some true) (hx : ev n env x = some (sv b)) :
    PS P ops n env L ⟨dst, .call ⟨.builtin .len, #[x], #[t]⟩, ty, pos, aft, g⟩ (.int .i64 (b.length : Int)) :=
  ⟨hg, (fun a w hfr _ => by
    have h := hfr.eval hx
    have e : (ByteArray.mk b.toArray).size = b.length := by simp [ByteArray.size]
    simp only [execOp, resolve, invoke, builtin]
    simp [h, sv, Builtin.len_, run_underlying S.under, goInt, e])⟩
theorem run_strLss {t : TypeId} (a b : Blk) (w : World) : (Go.binOp .lss t (sv a) (sv b)).run P w = .ok (.bool (klt a b)) w := by
  have h1 : (ByteArray.mk a.toArray).toList = a := by rw [ByteArray.toList_eq]
  have h2 : (ByteArray.mk b.toArray).toList = b := by rw [ByteArray.toList_eq]
  simp only [Go.binOp, sv, Op.stringOp, h1, h2]; simp [klt]
theorem run_strGeq {t : TypeId} (a b : Blk) (w : World) : (Go.binOp .geq t (sv a) (sv b)).run P w = .ok (.bool (!klt a b)) w := by
  have h1 : (ByteArray.mk a.toArray).toList = a := by rw [ByteArray.toList_eq]
  have h2 : (ByteArray.mk b.toArray).toList = b := by rw [ByteArray.toList_eq]
  simp only [Go.binOp, sv, Op.stringOp, h1, h2]; simp [klt]
theorem klt_or (a b : Blk) : (!(klt a b || a == b)) = klt b a := by
  rcases klt_tri a b with h | rfl | h
  · rw [h, klt_asym h]; rfl
  · simp [klt_irr]
  · have : (a == b) = false := beq_eq_false_iff_ne.2 (klt_ne h).symm
    rw [h, klt_asym h, this]; rfl
theorem run_strGtr {t : TypeId} (a b : Blk) (w : World) : (Go.binOp .gtr t (sv a) (sv b)).run P w = .ok (.bool (klt b a)) w := by
  have h1 : (ByteArray.mk a.toArray).toList = a := by rw [ByteArray.toList_eq]
  have h2 : (ByteArray.mk b.toArray).toList = b := by rw [ByteArray.toList_eq]
  simp only [Go.binOp, sv, Op.stringOp, h1, h2]
  have := klt_or a b
  unfold klt at this ⊢
  simp only [Sem.run_pure]
  rw [this]
theorem PS.lssStr {t u : TypeId} {x y : Operand} {a b : Blk} (c : Bool) (hc : klt a b = c) (hg : gd ops n env g = some true := by rfl) (hx : ev n env x = some (sv a) := by rfl) (hy : ev n env y = some (sv b) := by rfl) :
    PS P ops n env L ⟨dst, .binOp .lss t x y u, ty, pos, aft, g⟩ (.bool c) := by
  subst hc
  exact ⟨hg, fun ac w hf _ => by
    have h1 := hf.eval hx
    have h2 := hf.eval hy
    simp [execOp, h1, h2, run_strLss]; simp [eqGuard, sv]⟩
theorem PS.gtrStr {t u : TypeId} {x y : Operand} {a b : Blk} (c : Bool) (hc : klt b a = c) (hg : gd ops n env g = some true := by rfl) (hx : ev n env x = some (sv a) := by rfl) (hy : ev n env y = some (sv b) := by rfl) :
    PS P ops n env L ⟨dst, .binOp .gtr t x y u, ty, pos, aft, g⟩ (.bool c) := by
  subst hc
  exact ⟨hg, fun ac w hf _ => by
    have h1 := hf.eval hx
    have h2 := hf.eval hy
    simp [execOp, h1, h2, run_strGtr]; simp [eqGuard, sv]⟩
theorem PS.geqStr {t u : TypeId} {x y : Operand} {a b : Blk} (c : Bool) (hc : (!klt a b) = c) (hg : gd ops n env g = some true := by rfl) (hx : ev n env x = some (sv a) := by rfl) (hy : ev n env y = some (sv b) := by rfl) :
    PS P ops n env L ⟨dst, .binOp .geq t x y u, ty, pos, aft, g⟩ (.bool c) := by
  subst hc
  exact ⟨hg, fun ac w hf _ => by
    have h1 := hf.eval hx
    have h2 := hf.eval hy
    simp [execOp, h1, h2, run_strGeq]; simp [eqGuard, sv]⟩
/-- A call of a closure. -/
theorem CX.callF {f : FuncId} [F : HasFn P f] {y : Operand} {cap : List Value} {xs : List Operand} {tys : Array TypeId} {args all : List Value} {H : List Assn} {pre : PH → Prop} {post : Value → List Assn → Prop}
    (S : Ctr P f all H pre post) (h : ∀ v M, post v M → CX P ops Q n e0 (putE env dst v) (M ++ L') rest) (hg : gd ops n env g = some true := by rfl)
    (hy : ev n env y = some (.func (.func f) #[] cap.toArray) := by rfl) (hx : evs n env xs = some args := by rfl) (ha : all = args ++ cap := by rfl) (hsel : Sel L H L' := by repeat (first | exact Sel.nil _ | (apply Sel.cons; (· repeat (first | exact .head _ | apply Pick.tail | apply Upd.tail))))) (hpre : ∀ x, Sep L' x → pre x := by exact fun _ _ => trivial) :
    CX P ops Q n e0 env L (⟨dst, .call ⟨.value y, xs.toArray, tys⟩, ty, pos, aft, g⟩ :: rest) := by
  subst ha
  exact CX.callV (first := #[]) (cap := cap.toArray) hg hy hx (by simpa using S) hsel hpre h
/-- Cells that stand somewhere, to be read only. -/
@[irreducible] def rd (a : Option Addr) (len : Nat) (vs : List Value) : Assn where
  ok h := rdx a len vs h
  mono := fun _ _ l e => rdx_mono e l
theorem rd_ok {a : Option Addr} {len : Nat} {vs : List Value} {h : PH} : (rd a len vs).ok h ↔ rdx a len vs h := by
  unfold rd; exact Iff.rfl
theorem rdx_rd {L L' : List Assn} {a : Option Addr} {len : Nat} {vs : List Value} (p : Pick (rd a len vs) L L') : ∀ y, Sep L y → rdx a len vs y := fun y hy => rd_ok.1 (p.ok hy)
theorem CX.strBytes {s t e : TypeId} {sz : Nat} [S : StrT P s] [E : ElemA P t e sz] [I : IntT P e .u8] {x : Operand} {b : Blk}
    (h : ∀ q c, b.length ≤ c → CX P ops Q n e0 (putE env dst (.slice (some ⟨q, 0, none⟩) b.length c)) (rd (some ⟨q, 0, none⟩) b.length (cb b) :: L) rest) (hg : gd ops n env g = some true := by rfl) (hx : ev n env x = some (sv b) := by rfl) :
    CX P ops Q n e0 env L (⟨dst, .convert s t x, ty, pos, aft, g⟩ :: rest) := by
  refine CX.step hg fun a w hf hs he K hK => ?_
  have hsz : (ByteArray.mk b.toArray).size = b.length := by simp [ByteArray.size]
  have hrun := run_bytes_of_string (P := P) w s t e ⟨b.toArray⟩ S.under E.under I.under
  rw [hsz] at hrun
  have hge := grownCap_ge w b.length 0 e
  generalize grownCap w b.length 0 e = cap at hrun hge
  have hr2 : (execOp a.eval ⟨dst, .convert s t x, ty, pos, aft, g⟩).run P w = .ok (.value (.slice (some ⟨w.heap.size, 0, none⟩) b.length cap)) (w.drew.alloc (.cells (bytesRow ⟨b.toArray⟩ cap) e ((bytesRow ⟨b.toArray⟩ cap).size, (bytesRow ⟨b.toArray⟩ cap).size + 1))) := by
    have hv := hf.eval hx
    unfold sv at hv
    simp [execOp, hv, hrun]
  unfold Oper.wp
  rw [hr2]
  refine hK _ _ (h w.heap.size cap hge _ _ (hf.put dst _) ?_ (he.trans ⟨rfl, rfl, rfl⟩))
  rw [ph_alloc]
  refine Sep.push (ph_size w) (fun k hk => rd_ok.2 (.inr ⟨_, _, _, _, _, rfl, hk, fun j u hj => ?_⟩)) hs
  have hj' : j < b.length := by have := (List.getElem?_eq_some_iff.1 hj).1; simpa using this
  rw [Nat.zero_add, bytesRow_at _ _ _ (by simpa using hj')]
  simp only [cb, ib, List.map_map, List.getElem?_map, List.getElem?_eq_getElem hj', Option.map_some] at hj
  simpa using hj
end
/-! ### Rows and changes -/
structure RwV where
  key : Blk
  s : SlB
def RwV.cells (r : RwV) : List Value := [sv r.key, .slice r.s.a r.s.b.length r.s.c]
def RwV.m (r : RwV) : Blk × Blk := (r.key, r.s.b)
structure ChV where
  key : Blk
  s : SlB
  gone : Bool
def ChV.cells (r : ChV) : List Value := [sv r.key, .slice r.s.a r.s.b.length r.s.c, .bool r.gone]
def ChV.m (r : ChV) : ChM := ⟨r.key, r.s.b, r.gone⟩
theorem SlB.ok.mono {x y : PH} {s : SlB} (h : s.ok x) (l : Le x y) : s.ok y := ⟨h.nil, h.le, h.max, rdx_mono h.r l⟩
def rwAt (a : Option Addr) (l : List RwV) (x : PH) : Prop := rdx a (l.length * 2) (rows RwV.cells l) x ∧ ∀ r ∈ l, r.s.ok x
def chAt (a : Option Addr) (l : List ChV) (x : PH) : Prop := rdx a (l.length * 3) (rows ChV.cells l) x ∧ ∀ r ∈ l, r.s.ok x
theorem rwAt_mono {a : Option Addr} {l : List RwV} {x y : PH} (h : rwAt a l x) (k : Le x y) : rwAt a l y := ⟨rdx_mono h.1 k, fun r hr => (h.2 r hr).mono k⟩
theorem chAt_mono {a : Option Addr} {l : List ChV} {x y : PH} (h : chAt a l x) (k : Le x y) : chAt a l y := ⟨rdx_mono h.1 k, fun r hr => (h.2 r hr).mono k⟩
theorem rw_len (l : List RwV) : ∀ y ∈ l, (RwV.cells y).length = 2 := fun _ _ => rfl
theorem ch_len (l : List ChV) : ∀ y ∈ l, (ChV.cells y).length = 3 := fun _ _ => rfl
theorem rwAt_some {a : Option Addr} {l : List RwV} {x : PH} (h : rwAt a l x) (h0 : 0 < l.length) : ∃ g off, a = some ⟨g, off, none⟩ := rdx_some h.1 (by omega)
theorem chAt_some {a : Option Addr} {l : List ChV} {x : PH} (h : chAt a l x) (h0 : 0 < l.length) : ∃ g off, a = some ⟨g, off, none⟩ := rdx_some h.1 (by omega)
theorem rwAt.cells {L L' : List Assn} {x : PH} {g off i : Nat} {l : List RwV} (h : rwAt (some ⟨g, off, none⟩) l x) (p : Pick (exact x) L L') (hi : i < l.length) : CellsAt L g (off + i * 2) (l[i]).cells := CellsAt.row p h.1 (by omega) (rw_len l) hi
theorem chAt.cells {L L' : List Assn} {x : PH} {g off i : Nat} {l : List ChV} (h : chAt (some ⟨g, off, none⟩) l x) (p : Pick (exact x) L L') (hi : i < l.length) : CellsAt L g (off + i * 3) (l[i]).cells := CellsAt.row p h.1 (by omega) (ch_len l) hi
theorem rwAt.cell {L L' : List Assn} {x : PH} {g off i : Nat} {l : List RwV} {v : Value} (h : rwAt (some ⟨g, off, none⟩) l x) (p : Pick (exact x) L L') (hi : i < l.length) (j : Nat) (hv : (l[i]).cells[j]? = some v) : CellAt L g (off + i * 2 + j) v :=
  fun y hy => by
    obtain ⟨cs, t, fr, e, hc⟩ := h.cells p hi y hy
    exact ⟨cs, t, fr, e, hc j v hv⟩
theorem chAt.cell {L L' : List Assn} {x : PH} {g off i : Nat} {l : List ChV} {v : Value} (h : chAt (some ⟨g, off, none⟩) l x) (p : Pick (exact x) L L') (hi : i < l.length) (j : Nat) (hv : (l[i]).cells[j]? = some v) : CellAt L g (off + i * 3 + j) v :=
  fun y hy => by
    obtain ⟨cs, t, fr, e, hc⟩ := h.cells p hi y hy
    exact ⟨cs, t, fr, e, hc j v hv⟩
theorem rwAt.cellsE {L L' : List Assn} {x : PH} {g off i : Nat} {l : List RwV} {r : RwV} (h : rwAt (some ⟨g, off, none⟩) l x) (hi : i < l.length) (e : l[i] = r) (p : Pick (exact x) L L') : CellsAt L g (off + i * 2) r.cells := by subst e; exact h.cells p hi
theorem chAt.cellsE {L L' : List Assn} {x : PH} {g off i : Nat} {l : List ChV} {r : ChV} (h : chAt (some ⟨g, off, none⟩) l x) (hi : i < l.length) (e : l[i] = r) (p : Pick (exact x) L L') : CellsAt L g (off + i * 3) r.cells := by subst e; exact h.cells p hi
/-- A table, or changes, that stand somewhere. -/
@[irreducible] def tabA (a : Option Addr) (l : List RwV) : Assn where
  ok h := rwAt a l h
  mono := fun _ _ k e => rwAt_mono e k
@[irreducible] def chsA (a : Option Addr) (l : List ChV) : Assn where
  ok h := chAt a l h
  mono := fun _ _ k e => chAt_mono e k
theorem tabA_ok {a : Option Addr} {l : List RwV} {h : PH} : (tabA a l).ok h ↔ rwAt a l h := by
  unfold tabA; exact Iff.rfl
theorem chsA_ok {a : Option Addr} {l : List ChV} {h : PH} : (chsA a l).ok h ↔ chAt a l h := by
  unfold chsA; exact Iff.rfl
theorem rw_tab {L L' : List Assn} {a : Option Addr} {l : List RwV} (p : Pick (tabA a l) L L') : ∀ y, Sep L y → rwAt a l y := fun y hy => tabA_ok.1 (p.ok hy)
theorem ch_chs {L L' : List Assn} {a : Option Addr} {l : List ChV} (p : Pick (chsA a l) L L') : ∀ y, Sep L y → chAt a l y := fun y hy => chsA_ok.1 (p.ok hy)
theorem rw_ex {L L' : List Assn} {x : PH} (p : Pick (exact x) L L') {a : Option Addr} {l : List RwV} (h : rwAt a l x) : ∀ y, Sep L y → rwAt a l y := fun y hy => rwAt_mono h (p.ok hy)
theorem ch_ex {L L' : List Assn} {x : PH} (p : Pick (exact x) L L') {a : Option Addr} {l : List ChV} (h : chAt a l x) : ∀ y, Sep L y → chAt a l y := fun y hy => chAt_mono h (p.ok hy)
/-! ### Which may be -/
instance : DecidableEq ChM := fun a b => decidable_of_iff (a.key = b.key ∧ a.val = b.val ∧ a.gone = b.gone) ⟨fun h => by cases a; cases b; simp_all, fun h => by subst h; exact ⟨rfl, rfl, rfl⟩⟩
instance (c : ChM) : Decidable c.ok := decidable_of_iff (1 ≤ c.key.length ∧ c.key.length ≤ 16 ∧ c.val.length ≤ 1048576 ∧ (c.gone = true → c.val = [])) ⟨fun h => ⟨h.1, h.2.1, h.2.2.1, h.2.2.2⟩, fun h => ⟨h.k1, h.k2, h.v, h.g⟩⟩
instance (l : List ChM) : Decidable (RisingC l) := by unfold RisingC; infer_instance
instance (l : List ChM) : Decidable (MayC l) := by unfold MayC; infer_instance
instance (t : Tab) : Decidable (Rising t) := by unfold Rising; infer_instance
def okR (r : Blk × Blk) : Prop := 1 ≤ r.1.length ∧ r.1.length ≤ 16 ∧ r.2.length ≤ 1048576
instance (r : Blk × Blk) : Decidable (okR r) := by unfold okR; infer_instance
def MayR (t : Tab) : Prop := Rising t ∧ ∀ r ∈ t, okR r
instance (t : Tab) : Decidable (MayR t) := by unfold MayR; infer_instance
theorem pw_adj {α : Type} (k : α → Blk) : ∀ (l : List α), (∀ j (h : j + 1 < l.length), klt (k (l[j]'(by omega))) (k l[j + 1]) = true) → l.Pairwise fun x y => klt (k x) (k y) = true
  | [], _ => .nil
  | [x], _ => by simp
  | x :: y :: t, h => by
    have ih := pw_adj k (y :: t) (fun j hj => by have := h (j + 1) (by simp at hj ⊢; omega); simpa using this)
    have h0 := h 0 (by simp)
    simp only [List.getElem_cons_zero, List.getElem_cons_succ] at h0
    refine List.pairwise_cons.2 ⟨fun z hz => ?_, ih⟩
    rcases List.mem_cons.1 hz with rfl | hz
    · exact h0
    · exact klt_tr h0 ((List.pairwise_cons.1 ih).1 z hz)
theorem adj_pw {α : Type} (k : α → Blk) {l : List α} (h : l.Pairwise fun x y => klt (k x) (k y) = true) (j : Nat) (hj : j + 1 < l.length) : klt (k (l[j]'(by omega))) (k l[j + 1]) = true :=
  List.pairwise_iff_getElem.1 h j (j + 1) (by omega) hj (by omega)
def rwKey (r : RwV) : Blk := r.key
def chKey (r : ChV) : Blk := r.key
theorem risR_iff (l : List RwV) : Rising (l.map RwV.m) ↔ l.Pairwise fun x y => klt (rwKey x) (rwKey y) = true := by unfold Rising; rw [List.pairwise_map]; exact Iff.rfl
theorem risC_iff (l : List ChV) : RisingC (l.map ChV.m) ↔ l.Pairwise fun x y => klt (chKey x) (chKey y) = true := by unfold RisingC; rw [List.pairwise_map]; exact Iff.rfl
end Go.Cx
