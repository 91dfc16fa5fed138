/- Part K2: DkM, Cf, Cg, Ch, Se, St, Op, By, Ba, Rg, Rb, Rw. -/
import Derived.Test.YtlckhaodecdbbaaGreatDoorK1
import Derived.Test.YtlckhaodecdbbaaGreatDoorKT
import Derived.Laws.BytesArg
import Derived.Laws.Strings
import Derived.OpenShut
import Derived.ShutString
import Derived.ChangeOld
import Derived.Below
import Derived.WalkKit
import Derived.ProofKit
import Derived.Deep.Slices
import Derived.ChangeSame
import Derived.RangeFuncRecord
import Derived.RangeFuncSeq
import Derived.OrdersIn
import Derived.TacticsIn
import Derived.SliceStrings
import Derived.SizedLaws
import Derived.Laws.IdiomStrings
set_option linter.unusedVariables false
set_option linter.unusedSimpArgs false
/-! A disk, in plain words: what is sure, what is not, and the steps to come. No program in sight. -/
namespace Go.Cx
abbrev Blk := List UInt8
def ib (b : Blk) : List Int := b.map fun x => ((x.toNat : Nat) : Int)
/-- A block's cells. -/
def cb (b : Blk) : List Value := (ib b).map (Value.int .u8)
def zblk : Blk := List.replicate 128 0

theorem ib_inj {a b : Blk} : ib a = ib b ↔ a = b := by
  unfold ib
  constructor
  · intro h
    have : ∀ (a b : List UInt8), a.map (fun x => ((x.toNat : Nat) : Int)) = b.map (fun x => ((x.toNat : Nat) : Int)) → a = b := by
      intro a
      induction a with
      | nil => intro b h; cases b <;> simp_all
      | cons x a ih =>
        intro b h
        cases b with
        | nil => simp at h
        | cons y b =>
          simp only [List.map_cons, List.cons.injEq] at h
          have h1 : x.toNat = y.toNat := by omega
          rw [UInt8.toNat_inj.1 h1, ih b h.2]
    exact this a b h
  · rintro rfl; rfl
@[simp] theorem length_ib (b : Blk) : (ib b).length = b.length := by simp [ib]
@[simp] theorem length_cb (b : Blk) : (cb b).length = b.length := by simp [cb]
theorem one_cb (b : Blk) : ∀ u ∈ cb b, u.oneCell' = true := by
  intro u hu; simp only [cb, List.mem_map] at hu; obtain ⟨z, _, rfl⟩ := hu; rfl
theorem cb_z : cb zblk = List.replicate 128 (.int .u8 0) := by simp [cb, ib, zblk]
theorem cb_append (a b : Blk) : cb (a ++ b) = cb a ++ cb b := by simp [cb, ib]
theorem cb_take (a : Blk) (n : Nat) : (cb a).take n = cb (a.take n) := by simp [cb, ib, List.map_take]
theorem cb_drop (a : Blk) (n : Nat) : (cb a).drop n = cb (a.drop n) := by simp [cb, ib, List.map_drop]
theorem cb_get (a : Blk) (n : Nat) (h : n < a.length) : (cb a)[n]? = some (.int .u8 (a[n].toNat : Int)) := by simp [cb, ib, h]
theorem cb_setL (a v : Blk) (o : Nat) : setL (cb a) o (cb v) = cb (a.take o ++ (v ++ a.drop (o + v.length))) := by
  simp [setL, cb, ib, List.map_take, List.map_drop]

def WB (b : Blk) : Prop := b.length = 128
theorem WB_z : WB zblk := by simp [WB, zblk]

/-! ### Rows of equal parts -/
def rows {α : Type} (f : α → List Value) (l : List α) : List Value := (l.map f).flatten
theorem length_rows {α : Type} (f : α → List Value) (k : Nat) (l : List α) (h : ∀ x ∈ l, (f x).length = k) : (rows f l).length = l.length * k := by
  induction l with
  | nil => simp [rows]
  | cons x l ih =>
    have := ih fun y hy => h y (by simp [hy])
    simp only [rows, List.map_cons, List.flatten_cons, List.length_append] at this ⊢
    rw [h x (by simp), List.length_cons, Nat.add_mul, this]; omega
theorem rows_append {α : Type} (f : α → List Value) (a b : List α) : rows f (a ++ b) = rows f a ++ rows f b := by simp [rows]
theorem rows_drop {α : Type} (f : α → List Value) (k : Nat) (l : List α) (h : ∀ x ∈ l, (f x).length = k) (i : Nat) : (rows f l).drop (i * k) = rows f (l.drop i) := by
  induction l generalizing i with
  | nil => simp [rows]
  | cons x l ih =>
    cases i with
    | zero => simp
    | succ i =>
      have := ih (fun y hy => h y (by simp [hy])) i
      simp only [rows, List.map_cons, List.flatten_cons, List.drop_succ_cons] at this ⊢
      rw [← this, Nat.add_mul, Nat.one_mul, Nat.add_comm, ← List.drop_drop, ← h x (by simp)]
      simp
theorem rows_get {α : Type} (f : α → List Value) (k : Nat) (l : List α) (h : ∀ x ∈ l, (f x).length = k) (i : Nat) (hi : i < l.length) (j m : Nat) (hj : j + m ≤ k) :
    ((rows f l).drop (i * k + j)).take m = ((f l[i]).drop j).take m := by
  rw [← List.drop_drop, rows_drop f k l h, List.drop_eq_getElem_cons hi]
  simp only [rows, List.map_cons, List.flatten_cons]
  have := h l[i] (by simp)
  rw [List.drop_append_of_le_length (by omega), List.take_append_of_le_length (by simp; omega)]
theorem rows_set {α : Type} (f : α → List Value) (k : Nat) (l : List α) (h : ∀ x ∈ l, (f x).length = k) (i : Nat) (hi : i < l.length) (j : Nat) (vs : List Value) (y : α) (hj : j + vs.length ≤ k)
    (hy : f y = setL (f l[i]) j vs) : setL (rows f l) (i * k + j) vs = rows f (l.set i y) := by
  have hlen := length_rows f k l h
  have e : l = l.take i ++ (l[i] :: l.drop (i + 1)) := by simp
  have hk : (f l[i]).length = k := h _ (by simp)
  have e2 : l.set i y = l.take i ++ (y :: l.drop (i + 1)) := by rw [List.set_eq_take_append_cons_drop]; simp [hi]
  have hpre : (rows f (l.take i)).length = i * k := by
    rw [length_rows f k _ fun x hx => h x (List.mem_of_mem_take hx)]; simp [Nat.min_eq_left (Nat.le_of_lt hi)]
  rw [e2, rows_append]
  have e3 : rows f l = rows f (l.take i) ++ (f l[i] ++ rows f (l.drop (i + 1))) := by
    conv => lhs; rw [e, rows_append]
    rfl
  rw [e3]
  have e4 : rows f (y :: l.drop (i + 1)) = setL (f l[i]) j vs ++ rows f (l.drop (i + 1)) := by simp [rows, ← hy]
  rw [e4]
  simp only [setL]
  rw [List.take_append, List.take_of_length_le (by omega), hpre, Nat.add_sub_cancel_left]
  rw [List.take_append_of_le_length (by omega)]
  rw [List.drop_append, List.drop_of_length_le (show (rows f (l.take i)).length ≤ i * k + j + vs.length by omega), hpre]
  have e5 : i * k + j + vs.length - i * k = j + vs.length := by omega
  rw [e5, List.drop_append_of_le_length (by omega)]
  simp

theorem rows_at {α : Type} (f : α → List Value) (k : Nat) (l : List α) (h : ∀ x ∈ l, (f x).length = k) (i : Nat) (hi : i < l.length) (j : Nat) (hj : j < k) : (rows f l)[i * k + j]? = (f l[i])[j]? := by
  have := rows_get f k l h i hi j 1 (by omega)
  have e : ∀ (a : List Value) (n : Nat), a[n]? = ((a.drop n).take 1)[0]? := fun a n => by simp [List.getElem?_take]
  rw [e, this, ← e]

def flat (S : List Blk) : List Value := rows cb S
def pc (p : Nat × Blk) : List Value := .int .i64 (p.1 : Int) :: cb p.2
def flatL (l : List (Nat × Blk)) : List Value := rows pc l
theorem one_flat (S : List Blk) : ∀ u ∈ flat S, u.oneCell' = true := by
  intro u hu; simp only [flat, rows, List.mem_flatten, List.mem_map] at hu; obtain ⟨l, ⟨b, _, rfl⟩, h⟩ := hu; exact one_cb b u h
structure DS where
  sure : List Blk
  loose : List (Nat × Blk)
  left : Int
  steps : Nat
  dark : Bool

/-- Well made, N steps or fewer behind it. -/
structure DS.wf (D : DS) (N : Nat) : Prop where
  lo : 64 ≤ D.sure.length
  hi : D.sure.length ≤ 4096
  wb : ∀ b ∈ D.sure, WB b
  lb : ∀ p ∈ D.loose, p.1 < D.sure.length ∧ WB p.2
  left0 : 0 ≤ D.left
  left1 : D.left ≤ 9223372036854775807
  steps : D.steps ≤ N
  loose : D.loose.length ≤ N

def errOf (n : Int) (len : Nat) : Int := if 0 ≤ n ∧ n < len then 0 else 2
def DS.there (D : DS) (n : Int) : Int := errOf n D.sure.length
def DS.lit (D : DS) (n : Int) : Int := if D.dark then 9 else D.there n
def DS.step (D : DS) : Int × DS := if D.left = 1 then (9, { D with dark := true }) else (0, { D with left := max (D.left - 1) 0, steps := D.steps + 1 })
def DS.write (D : DS) (n : Int) (b : Blk) : Int × DS :=
  if D.lit n ≠ 0 then (D.lit n, D) else if D.step.1 = 0 then (0, { D.step.2 with loose := D.step.2.loose ++ [(n.toNat, b)] }) else D.step
/-- Of a write so many bytes. -/
def torn (old now : Blk) (n : Nat) : Blk := now.take n ++ old.drop n
def pickAt (picks : List Int) (others : Nat) (i : Nat) : Nat := match picks[i]? with | some z => (min (max z 0) 128).toNat | none => others
def settleL (S : List Blk) (picks : List Int) (others : Nat) : Nat → List (Nat × Blk) → List Blk
  | _, [] => S
  | i, p :: l => settleL (S.set p.1 (torn (S.getD p.1 []) p.2 (pickAt picks others i))) picks others (i + 1) l
def DS.settle (D : DS) (picks : List Int) (others : Nat) : DS := { D with sure := settleL D.sure picks others 0 D.loose, loose := [] }
def DS.flush (D : DS) : Int × DS := if D.lit 0 ≠ 0 then (D.lit 0, D) else if D.step.1 = 0 then (0, D.step.2.settle [] 128) else D.step
def DS.arm (D : DS) (n : Int) : Int × DS := if D.lit 0 ≠ 0 then (D.lit 0, D) else if n < 0 then (2, D) else (0, { D with left := n })
def DS.crash (D : DS) (picks : List Int) : DS := { D.settle picks 0 with dark := false, left := 0 }
/-- What was written last. -/
def DS.get (D : DS) (n : Nat) : Blk := match D.loose.reverse.find? (·.1 == n) with | some p => p.2 | none => D.sure.getD n []
def DS.read (D : DS) (n : Int) : Blk × Int := if D.lit n ≠ 0 then (zblk, D.lit n) else (D.get n.toNat, 0)
def DS.sureAt (D : DS) (n : Int) : Blk × Int := if D.there n ≠ 0 then (zblk, D.there n) else (D.sure.getD n.toNat [], 0)
def DS.new (n : Nat) : DS := { sure := List.replicate n zblk, loose := [], left := 0, steps := 0, dark := false }

theorem settleL_snoc (picks : List Int) (o : Nat) (l : List (Nat × Blk)) (p : Nat × Blk) : ∀ (S : List Blk) (i : Nat), settleL S picks o i (l ++ [p]) = (settleL S picks o i l).set p.1 (torn ((settleL S picks o i l).getD p.1 []) p.2 (pickAt picks o (i + l.length))) := by
  induction l with
  | nil => intro S i; simp [settleL]
  | cons q l ih =>
    intro S i
    simp only [List.cons_append, settleL]
    rw [ih]
    simp only [List.length_cons]
    rw [show i + 1 + l.length = i + (l.length + 1) by omega]
theorem length_settleL (picks : List Int) (o : Nat) (l : List (Nat × Blk)) : ∀ (S : List Blk) (i : Nat), (settleL S picks o i l).length = S.length := by
  induction l with
  | nil => intro S i; rfl
  | cons q l ih => intro S i; simp only [settleL]; rw [ih]; simp
theorem torn_WB {a b : Blk} {n : Nat} (ha : WB a) (hb : WB b) : WB (torn a b n) := by
  unfold WB torn at *; simp; omega
theorem getD_WB {S : List Blk} (h : ∀ b ∈ S, WB b) {k : Nat} (hk : k < S.length) : WB (S.getD k []) := by
  rw [List.getD_eq_getElem?_getD, List.getElem?_eq_getElem hk]; exact h _ (by simp)
theorem settleL_WB (picks : List Int) (o : Nat) (l : List (Nat × Blk)) : ∀ (S : List Blk) (i : Nat), (∀ b ∈ S, WB b) → (∀ p ∈ l, p.1 < S.length ∧ WB p.2) → ∀ b ∈ settleL S picks o i l, WB b := by
  induction l with
  | nil => intro S i h _; exact h
  | cons q l ih =>
    intro S i h hl
    simp only [settleL]
    refine ih _ _ (fun b hb => ?_) (fun p hp => by rw [List.length_set]; exact hl p (by simp [hp]))
    rcases List.mem_or_eq_of_mem_set hb with hb | rfl
    · exact h b hb
    · exact torn_WB (getD_WB h (hl q (by simp)).1) (hl q (by simp)).2
theorem settle_wf {D : DS} {N : Nat} (h : D.wf N) (picks : List Int) (o : Nat) : (D.settle picks o).wf N :=
  ⟨by simp only [DS.settle, length_settleL]; exact h.lo, by simp only [DS.settle, length_settleL]; exact h.hi, settleL_WB _ _ _ _ _ h.wb h.lb, by simp [DS.settle], h.left0, h.left1, h.steps, by simp [DS.settle]⟩
theorem one_pc (p : Nat × Blk) : ∀ u ∈ pc p, u.oneCell' = true := by
  intro u hu; simp only [pc, List.mem_cons] at hu
  rcases hu with rfl | hu
  · rfl
  · exact one_cb _ u hu
theorem length_pc {p : Nat × Blk} (h : WB p.2) : (pc p).length = 129 := by simp [pc, WB] at *; exact h
theorem flatL_p (l : List (Nat × Blk)) (h : ∀ p ∈ l, WB p.2) (j : Nat) (hj : j < l.length) : ((flatL l).drop (j * 129)).take 129 = pc l[j] := by
  have := rows_get pc 129 l (fun x hx => length_pc (h x hx)) j hj 0 129 (by omega)
  rw [Nat.add_zero] at this
  rw [flatL, this, List.drop_zero, List.take_of_length_le (by rw [length_pc (h _ (by simp))]; omega)]
theorem flat_set {S : List Blk} (h : ∀ b ∈ S, WB b) {k : Nat} (hk : k < S.length) (b : Blk) (m : Nat) (hm : m ≤ 128) (hb : WB b) : setL (flat S) (k * 128) (cb (b.take m)) = flat (S.set k (torn (S.getD k []) b m)) := by
  have hg : S.getD k [] = S[k] := by simp [hk]
  have hw := h S[k] (by simp)
  have := rows_set cb 128 S (fun x hx => by rw [length_cb]; exact h x hx) k hk 0 (cb (b.take m)) (torn S[k] b m) (by simp [WB] at hb ⊢; omega) (by
    have e : (b.take m).length = m := by rw [List.length_take, hb]; omega
    rw [cb_setL, e]; simp [torn])
  rw [Nat.add_zero] at this
  rw [hg]; exact this
theorem flat_zs (k : Nat) : flat (List.replicate k zblk) = List.replicate (k * 128) (.int .u8 0) := by
  induction k with
  | zero => rfl
  | succ k ih =>
    have : flat (zblk :: List.replicate k zblk) = cb zblk ++ flat (List.replicate k zblk) := rfl
    rw [List.replicate_succ, this, ih, cb_z, List.replicate_append_replicate]
    congr 1; omega
theorem made_rep (v : Value) (m n : Nat) (hm : 0 < m) : (madeCells (List.replicate m v).toArray n).toList = List.replicate n v := by
  apply List.ext_getElem
  · simp [madeCells]
  · intro i h1 h2
    simp only [madeCells, Array.getElem_toList, Array.getElem_map, List.getElem_replicate]
    rw [getElem!_pos _ _ (by simp; exact Nat.mod_lt _ hm)]
    simp
theorem fill_put (k : Nat) (b : Blk) (hb : WB b) : fillL (fun i => [(0, 1), (1, 128)][i]?) (Value.agg ([(.int .i64 0)] ++ List.replicate 128 (.int .u8 0) : List Value).toArray).cells.toList [(0, .int .i64 (k : Int)), (1, .agg (cb b).toArray)] = some (pc (k, b)) := by
  have h : (cb b).length = 128 := by rw [length_cb]; exact hb
  simp [fillL, Value.cells, setL, h, pc]
theorem fill_one {sz : Nat} {cells vs : List Value} (h : vs.length = sz) (hc : cells.length = sz) : fillL (fun i => some (i * sz, sz)) cells [(0, .agg vs.toArray)] = some vs := by
  simp [fillL, Value.cells, setL, h, hc, List.drop_of_length_le]
/-- The last write to a block. -/
def lastOf (l : List (Nat × Blk)) (k : Nat) : Option (Nat × Blk) := l.reverse.find? (·.1 == k)
theorem lastOf_succ (l : List (Nat × Blk)) (k j : Nat) (h : j < l.length) : lastOf (l.take (j + 1)) k = if l[j].1 = k then some l[j] else lastOf (l.take j) k := by
  unfold lastOf
  rw [List.take_succ_eq_append_getElem h, List.reverse_append]
  simp only [List.reverse_cons, List.reverse_nil, List.nil_append, List.cons_append, List.find?_cons]
  by_cases e : l[j].1 = k
  · simp [e]
  · simp [e, beq_eq_false_iff_ne.2 e]
theorem flatL_n (l : List (Nat × Blk)) (h : ∀ p ∈ l, WB p.2) (j : Nat) (hj : j < l.length) : (flatL l)[j * 129]? = some (.int .i64 (l[j].1 : Int)) := by
  have := rows_at pc 129 l (fun x hx => by have := h x hx; simp [pc, WB] at this ⊢; exact this) j hj 0 (by omega)
  rw [Nat.add_zero] at this
  rw [flatL, this]; rfl
theorem flatL_b (l : List (Nat × Blk)) (h : ∀ p ∈ l, WB p.2) (j : Nat) (hj : j < l.length) : ((flatL l).drop (j * 129 + 1)).take 128 = cb l[j].2 := by
  have := rows_get pc 129 l (fun x hx => by have := h x hx; simp [pc, WB] at this ⊢; exact this) j hj 1 128 (by omega)
  rw [flatL, this]
  have hb := h l[j] (by simp)
  simp only [pc, List.drop_succ_cons, List.drop_zero]
  rw [List.take_of_length_le]; simp [WB] at hb ⊢; omega
end Go.Cx
/-! More rules of stepping: whole composites, and what the disk needs. -/
namespace Go.Cx
theorem WB.len {b : Blk} (h : WB b) : (cb b).length = 128 := by rw [length_cb]; exact h
theorem eqI {k : IntKind} {a b : Int} (h : a = b) : some (Value.int k a) = some (Value.int k b) := by rw [h]
theorem CellsAt.all {L L' : List Assn} {b t : Nat} {cs : List Value} (p : Pick (bk b t cs) L L') : CellsAt L b 0 cs := CellsAt.pick p (by simp)
theorem Upd.of {A A' : Assn} {L L' : List Assn} (u : Upd A A' L L') : Upd A A' L L' := u
/-- So many cells stand at a place in what is not the function's own. -/
def rdx (a : Option Addr) (len : Nat) (vs : List Value) (x : PH) : Prop :=
  len = 0 ∨ ∃ g off cs t fr, a = some ⟨g, off, none⟩ ∧ x g = some (.cells cs t fr) ∧ ∀ j u, vs[j]? = some u → cs[off + j]? = some u
theorem rdx_mono {a : Option Addr} {len : Nat} {vs : List Value} {x y : PH} (h : rdx a len vs x) (l : Le x y) : rdx a len vs y :=
  h.imp id fun ⟨g, off, cs, t, fr, e1, e2, e3⟩ => ⟨g, off, cs, t, fr, e1, l _ _ e2, e3⟩
theorem rdx_RdS {L : List Assn} {a : Option Addr} {len : Nat} {vs : List Value} (r : RdS L a len vs) : ∀ y, Sep L y → rdx a len vs y := fun y hy => (r.2 y hy).2
section
variable {P : Program} {ops : Array Oper} {Q : Exit → Act → World → Prop} {n : Nat} {e0 : World} {env : Env} {L : List Assn} {rest : List Oper} {K : Act → World → Prop}
variable {dst : Option Tmp} {ty : TypeId} {pos : String} {aft : Array Edge} {g : Option (Nat × Bool)} {op : Op}
/-- A store of a whole block's cells. -/
theorem CX.storeAll {t sz : Nat} [Z : SzT P t sz] {x y : Operand} {b bt : Nat} {cs vs : List Value} {L' : List Assn} (hg : gd ops n env g = some true) (hx : ev n env x = some (.pointer (some ⟨b, 0, none⟩)))
    (hy : ev n env y = some (.agg vs.toArray)) (hu : Upd (bk b bt cs) (bk b bt vs) L L') (hv : vs.length = sz) (hc : cs.length = sz) (ho : ∀ u ∈ vs, u.oneCell' = true)
    (h : CX P ops Q n e0 (putE env dst undef) L' rest) : CX P ops Q n e0 env L (⟨dst, .store t x y, ty, pos, aft, g⟩ :: rest) := by
  have e : setL cs 0 (Value.agg vs.toArray).cells.toList = vs := by simp [setL, Value.cells, hv, hc, List.drop_of_length_le]
  refine CX.storeC (Z := Z) (cs := cs) (bt := bt) hg hx hy (by simpa [Value.cells] using hv) (by simpa [Value.cells] using ho) ?_ (by omega) h
  rw [e]; exact hu
theorem CX.boxG {t : Nat} {x : Operand} {vs : List Value} (hg : gd ops n env g = some true) (hx : ev n env x = some (.agg vs.toArray))
    (h : ∀ b, CX P ops Q n e0 (putE env dst (.pointer (some ⟨b, 0, none⟩))) (bk b t vs :: L) rest) : CX P ops Q n e0 env L (⟨dst, .box t x, ty, pos, aft, g⟩ :: rest) := CX.box hg hx h
theorem PS.buildZ {t len e sz : Nat} {z : Value} [A : ArrA P t len e sz] [Z : ZeroA P t z] {vs : List Value} (hg : gd ops n env g = some true) (hz : z.cells.toList = vs) : PS P ops n env L ⟨dst, .build t #[], ty, pos, aft, g⟩ (.agg vs.toArray) :=
  PS.buildArr (Z := Z) (parts := []) (vs := []) hg rfl (by subst hz; rfl)
theorem CQ.mem {L' : List Assn} (hl : ∀ h, Sep L h → Sep L' h) (h : CQ K n e0 env L') : CQ K n e0 env L := fun a w hf hsep he => h a w hf (hl _ hsep) he
theorem PS.neqB {t u e : Nat} [A : ArrA P t 128 e 1] [I : IntT P e .u8] [G : EqG P t] {x y : Operand} {a b : Blk} (hg : gd ops n env g = some true)
    (hx : ev n env x = some (.agg (cb a).toArray)) (hy : ev n env y = some (.agg (cb b).toArray)) (h1 : WB a) (h2 : WB b) :
    PS P ops n env L ⟨dst, .binOp .neq t x y u, ty, pos, aft, g⟩ (.bool (decide (a ≠ b))) := by
  have := PS.neqArr (P := P) (ops := ops) (L := L) (dst := dst) (ty := ty) (pos := pos) (aft := aft) (t := t) (u := u) (k := .u8) (xs := ib a) (ys := ib b) hg hx hy (by rw [length_ib]; exact h1) (by rw [length_ib]; exact h2)
  have e : decide (ib a ≠ ib b) = decide (a ≠ b) := by simp only [ne_eq, ib_inj]
  rw [e] at this; exact this
theorem PS.toT {o : Oper} {p : Prop} {_ : Decidable p} (h : PS P ops n env L o (.bool (decide p))) (hp : p) : PS P ops n env L o (.bool true) := by rw [decide_eq_true hp] at h; exact h
theorem PS.toF {o : Oper} {p : Prop} {_ : Decidable p} (h : PS P ops n env L o (.bool (decide p))) (hp : ¬ p) : PS P ops n env L o (.bool false) := by rw [decide_eq_false hp] at h; exact h
/-- Ways that meet again. -/
def JS {X : Type} (n : Nat) (e0 : World) (E : X → Env) (M : X → List Assn) (good : X → Prop) (a : Act) (w : World) : Prop := ∃ x, good x ∧ Fr n (E x) a ∧ Sep (M x) w.ph ∧ Env0 e0 w
theorem CC.join {c y : Code} {Q' : Exit → Act → World → Prop} {X : Type} (E : X → Env) (M : X → List Assn) (good : X → Prop) (h1 : CC P c (Exit.then (JS n e0 E M good) Q') n e0 env L) (h2 : ∀ x, good x → CC P y Q n e0 (E x) (M x)) :
    CC P c (Exit.then (y.wp P Q) Q') n e0 env L := fun a w hf hs he => Code.wp_mono (fun e a w h => by
      cases e with
      | normal => obtain ⟨x, hx, h1, h3, h4⟩ := h; exact h2 x hx a w h1 h3 h4
      | _ => exact h) (h1 a w hf hs he)
theorem CQ.joined {Q' : Exit → Act → World → Prop} {X : Type} {E : X → Env} {M : X → List Assn} {good : X → Prop} (x : X) (hx : good x) (hs : Sub env (E x)) {R : List Assn} (hl : Sel L (M x) R) :
    CQ (Exit.then (JS n e0 E M good) Q' .normal) n e0 env L := fun a w hf hsep he => ⟨x, hx, hf.sub hs, (hl.sep hsep).left, he⟩
/-- The first cells of an array that stands in memory. -/
theorem PS.sliceArrHi {t N e sz : Nat} [A : ArrA P t N e sz] {x y : Operand} {b o h : Nat} {k : IntKind} {z : Int} (hg : gd ops n env g = some true) (hx : ev n env x = some (.pointer (some ⟨b, o, none⟩)))
    (hy : ev n env y = some (.int k z)) (hz : z = (h : Int)) (hc : h ≤ N) :
    PS P ops n env L ⟨dst, .slice t x none (some y) none, ty, pos, aft, g⟩ (.slice (some ⟨b, o, none⟩) h N) := by
  subst hz
  have := PS.sliceArr (P := P) (ops := ops) (n := n) (env := env) (L := L) (dst := dst) (ty := ty) (pos := pos) (aft := aft) (g := g) (t := t) (lo := none) (hi := some y) (l := 0) (h := h) hg hx rfl (by simp [bndV, hy]) (.inl ⟨rfl, rfl⟩) (.inr ⟨k, rfl⟩) (Nat.zero_le _) hc
  have e : cutAt (some ⟨b, o, none⟩) 0 N sz = some ⟨b, o, none⟩ := by unfold cutAt; split <;> simp [addr_add]
  rw [e] at this; simpa using this
/-- A slice from a place on, of one whose room reaches further. -/
theorem PS.sliceLo {t e sz : Nat} [E : ElemA P t e sz] {x y : Operand} {b o len cap l : Nat} {k : IntKind} {z : Int} (hg : gd ops n env g = some true) (hx : ev n env x = some (.slice (some ⟨b, o, none⟩) len cap))
    (hy : ev n env y = some (.int k z)) (hz : z = (l : Int)) (hl : l ≤ len) (hc : len ≤ cap) :
    PS P ops n env L ⟨dst, .slice t x (some y) none none, ty, pos, aft, g⟩ (.slice (some ⟨b, if cap = l then o else o + l * sz, none⟩) (len - l) (cap - l)) := by
  subst hz
  have := PS.slice (P := P) (ops := ops) (n := n) (env := env) (L := L) (dst := dst) (ty := ty) (pos := pos) (aft := aft) (g := g) (t := t) (lo := some y) (hi := none) (l := l) (h := len) hg hx (by simp [bndV, hy]) rfl (.inr ⟨k, rfl⟩) (.inl ⟨rfl, rfl⟩) hl hc
  have e : cutAt (some ⟨b, o, none⟩) l cap sz = some ⟨b, if cap = l then o else o + l * sz, none⟩ := by unfold cutAt; split <;> simp [addr_add]
  rw [e] at this; exact this
end
end Go.Cx
/-! Rules whose small premises prove themselves. -/
namespace Go.Cx
/-- What an operation yields that only reckons. -/
def pv (n : Nat) (env : Env) : Op → Option Value
  | .move x => ev n env x
  | .assign x => ev n env x
  | .extract x i => match ev n env x with | some (.tuple vs) => vs[i]? | _ => none
  | .nilCheck x => match ev n env x with | some (.pointer (some a)) => some (.pointer (some a)) | _ => none
  | .pick c x y => match ev n env c with | some (.bool true) => ev n env x | some (.bool false) => ev n env y | _ => none
  | .unOp .not _ x => match ev n env x with | some (.bool b) => some (.bool (!b)) | _ => none
  | _ => none
def cv (n : Nat) (env : Env) (o : BinOp) (x y : Operand) : Option Value :=
  match ev n env x, ev n env y with
  | some (.int k p), some (.int k' q) => if k = k' then
      (match o with
      | .lss => some (.bool (decide (p < q)))
      | .leq => some (.bool (decide (p ≤ q)))
      | .gtr => some (.bool (decide (q < p)))
      | .geq => some (.bool (decide (q ≤ p)))
      | .eql => some (.bool (decide (p = q)))
      | .neq => some (.bool (decide (p ≠ q)))
      | _ => none) else none
  | _, _ => none
def av (n : Nat) (env : Env) (o : BinOp) (x y : Operand) : Option (IntKind × Int) :=
  match ev n env x, ev n env y with
  | some (.int k p), some (.int k' q) => if k = k' then
      (match o with
      | .add => some (k, p + q)
      | .sub => some (k, p - q)
      | .mul => some (k, p * q)
      | _ => none) else none
  | _, _ => none
def inR : IntKind → Int → Prop
  | .i64, z => -9223372036854775808 ≤ z ∧ z ≤ 9223372036854775807
  | .u64, z => 0 ≤ z ∧ z ≤ 18446744073709551615
  | .u32, z => 0 ≤ z ∧ z ≤ 4294967295
  | .u8, z => 0 ≤ z ∧ z ≤ 255
  | _, _ => False
theorem inR_wrap {k : IntKind} {z : Int} (h : inR k z) : k.wrap z = z := by
  cases k <;> simp only [inR] at h <;> first | exact wr_i64 h.1 h.2 | exact wr_u64 h.1 (by omega) | exact wr_u32 h.1 (by omega) | exact wr_u8 h.1 (by omega)
section
variable {P : Program} {ops : Array Oper} {Q : Exit → Act → World → Prop} {n : Nat} {e0 : World} {env : Env} {L L' : List Assn} {rest : List Oper} {K : Act → World → Prop}
variable {dst : Option Tmp} {ty : TypeId} {pos : String} {aft : Array Edge} {g : Option (Nat × Bool)} {op : Op}
theorem PS.auto {v : Value} (hg : gd ops n env g = some true) (h : pv n env op = some v) : PS P ops n env L ⟨dst, op, ty, pos, aft, g⟩ v := by
  unfold pv at h
  split at h
  · exact PS.move hg h
  · exact PS.assign hg h
  · split at h
    · exact PS.extract hg (by assumption) h
    · cases h
  · split at h
    · cases h; exact PS.nilCheck hg (by assumption)
    · cases h
  · split at h
    · exact PS.pickT hg (by assumption) h
    · exact PS.pickF hg (by assumption) h
    · cases h
  · split at h
    · cases h; exact PS.not hg (by assumption)
    · cases h
  · cases h
theorem PS.cmp {o : BinOp} {t u : TypeId} {x y : Operand} {v : Value} (hg : gd ops n env g = some true) (h : cv n env o x y = some v) : PS P ops n env L ⟨dst, .binOp o t x y u, ty, pos, aft, g⟩ v := by
  unfold cv at h
  split at h
  · rename_i k p k' q hx hy
    split at h
    · rename_i hk; subst hk
      split at h <;> first | (cases h; first | exact PS.lss hg hx hy | exact PS.leq hg hx hy | exact PS.gtr hg hx hy | exact PS.geq hg hx hy | exact PS.eql hg hx hy | exact PS.neq hg hx hy) | cases h
    · cases h
  · cases h
theorem PS.cmpT {o : BinOp} {t u : TypeId} {x y : Operand} {p : Prop} {_ : Decidable p} (hg : gd ops n env g = some true) (h : cv n env o x y = some (.bool (decide p))) (hp : p) : PS P ops n env L ⟨dst, .binOp o t x y u, ty, pos, aft, g⟩ (.bool true) := (PS.cmp hg h).toT hp
theorem PS.cmpF {o : BinOp} {t u : TypeId} {x y : Operand} {p : Prop} {_ : Decidable p} (hg : gd ops n env g = some true) (h : cv n env o x y = some (.bool (decide p))) (hp : ¬ p) : PS P ops n env L ⟨dst, .binOp o t x y u, ty, pos, aft, g⟩ (.bool false) := (PS.cmp hg h).toF hp
theorem PS.arith {o : BinOp} {t u : TypeId} {x y : Operand} {k : IntKind} {z : Int} (hg : gd ops n env g = some true) (h : av n env o x y = some (k, z)) (hr : inR k z) : PS P ops n env L ⟨dst, .binOp o t x y u, ty, pos, aft, g⟩ (.int k z) := by
  unfold av at h
  split at h
  · rename_i k1 p k' q hx hy
    split at h
    · rename_i hk; subst hk
      split at h <;> first | (cases h; first | exact PS.add hg hx hy (inR_wrap hr) | exact PS.sub hg hx hy (inR_wrap hr) | exact PS.mul hg hx hy (inR_wrap hr)) | cases h
    · cases h
  · cases h
theorem PS.convR {s t : TypeId} {k k' : IntKind} [I : IntT P s k] [J : IntT P t k'] {x : Operand} {p : Int} (hg : gd ops n env g = some true) (hx : ev n env x = some (.int k p)) (hr : inR k' p) :
    PS P ops n env L ⟨dst, .convert s t x, ty, pos, aft, g⟩ (.int k' p) := PS.convI hg hx (inR_wrap hr)

theorem CX.psA {v : Value} (h : CX P ops Q n e0 (putE env dst v) L rest) (hp : PS P ops n env L ⟨dst, op, ty, pos, aft, g⟩ v := by first | (apply PS.cmpT; (· rfl); (· rfl); (· first | assumption | omega | rfl | decide)) | (apply PS.cmpF; (· rfl); (· rfl); (· first | assumption | omega | rfl | decide)) | (apply PS.cmp <;> rfl) | (apply PS.notD <;> rfl) | (apply PS.auto <;> rfl) | (apply PS.fieldAddr <;> rfl) | (apply PS.load; (· rfl); (· rfl); (· apply CellAt.pick; (· first | exact pickA | exact updA); (· rfl))) | (apply PS.arith; (· rfl); (· rfl); (· simp only [inR]; omega)) | (apply PS.convR; (· rfl); (· rfl); (· simp only [inR]; omega)) | (apply PS.lenSl <;> rfl) | (apply PS.capSl <;> rfl) | (apply PS.maxI <;> rfl) | (apply PS.minI <;> rfl) | (apply PS.eqlPtrNil <;> rfl) | (apply PS.neqPtrNil <;> rfl) | (apply PS.eqlSlNil <;> rfl) | (apply PS.makeFunc <;> rfl) | (apply PS.fieldS <;> rfl)) : CX P ops Q n e0 env L (⟨dst, op, ty, pos, aft, g⟩ :: rest) := CX.ps hp h
theorem CX.skipA (h : CX P ops Q n e0 (putE env dst undef) L rest) (hg : gd ops n env g = some false := by rfl) : CX P ops Q n e0 env L (⟨dst, op, ty, pos, aft, g⟩ :: rest) := CX.skip hg h
theorem CX.storeA {t : Nat} [Z : SzT P t 1] {x y : Operand} {b o bt : Nat} {cs : List Value} {v : Value} (h : CX P ops Q n e0 (putE env dst undef) L' rest) (hg : gd ops n env g = some true := by rfl) (hx : ev n env x = some (.pointer (some ⟨b, o, none⟩)) := by rfl)
    (hy : ev n env y = some v := by rfl) (hv : v.oneCell' = true := by rfl) (hu : Upd (bk b bt cs) (bk b bt (cs.set o v)) L L' := by first | exact pickA | exact updA) (hl : Nat.blt o cs.length = true := by rfl) :
    CX P ops Q n e0 env L (⟨dst, .store t x y, ty, pos, aft, g⟩ :: rest) := CX.store hg hx hy hv hu hl h
theorem CC.condTA {c : Operand} {x y : Code} (h : CC P x Q n e0 env L) (hc : ev n env c = some (.bool true) := by rfl) : CC P (.cond c x y) Q n e0 env L := CC.condT hc h
theorem CC.condFA {c : Operand} {x y : Code} (h : CC P y Q n e0 env L) (hc : ev n env c = some (.bool false) := by rfl) : CC P (.cond c x y) Q n e0 env L := CC.condF hc h
theorem CC.condDTA {c : Operand} {x y : Code} {p : Prop} {_ : Decidable p} (h : CC P x Q n e0 env L) (hc : ev n env c = some (.bool (decide p)) := by rfl) (hp : p := by first | assumption | omega) : CC P (.cond c x y) Q n e0 env L := CC.condDT hc hp h
theorem CC.condDFA {c : Operand} {x y : Code} {p : Prop} {_ : Decidable p} (h : CC P y Q n e0 env L) (hc : ev n env c = some (.bool (decide p)) := by rfl) (hp : ¬ p := by first | assumption | omega) : CC P (.cond c x y) Q n e0 env L := CC.condDF hc hp h
theorem CQ.blockYA {id id' : Nat} (h : CQ (Q (.exit id')) n e0 env L) (hne : Nat.beq id' id = false := by rfl) : CQ (Exit.inBlock id Q (.exit id')) n e0 env L := CQ.blockY hne h
theorem CX.callA {f : FuncId} [F : HasFn P f] {xs : List Operand} {tys : Array TypeId} {args : List Value} {H : List Assn} {pre : PH → Prop} {post : Value → List Assn → Prop} (S : Ctr P f args H pre post)
    (h : ∀ v M, post v M → CX P ops Q n e0 (putE env dst v) (M ++ L') rest) (hg : gd ops n env g = some true := by rfl) (hx : evs n env xs = some args := by rfl) (hsel : Sel L H L' := by exact selA) (hpre : ∀ x, Sep L' x → pre x := by exact fun _ _ => trivial) :
    CX P ops Q n e0 env L (⟨dst, .call ⟨.value (.func f), xs.toArray, tys⟩, ty, pos, aft, g⟩ :: rest) := CX.call hg hx S hsel hpre h
theorem CX.allocA {t : Nat} {v : Value} [Z : ZeroA P t v] (h : ∀ b, CX P ops Q n e0 (putE env dst (.pointer (some ⟨b, 0, none⟩))) (bk b t v.cells.toList :: L) rest) (hg : gd ops n env g = some true := by rfl) : CX P ops Q n e0 env L (⟨dst, .alloc t, ty, pos, aft, g⟩ :: rest) := CX.alloc hg h
theorem CX.allocZ {t : Nat} {v : Value} [Z : ZeroA P t v] (cs : List Value) (h : ∀ b, CX P ops Q n e0 (putE env dst (.pointer (some ⟨b, 0, none⟩))) (bk b t cs :: L) rest) (hv : v.cells.toList = cs := by simp [cb_z, Value.cells]) (hg : gd ops n env g = some true := by rfl) :
    CX P ops Q n e0 env L (⟨dst, .alloc t, ty, pos, aft, g⟩ :: rest) := CX.allocAs cs hv hg h
theorem CX.boxA {t : Nat} {x : Operand} {vs : List Value} (h : ∀ b, CX P ops Q n e0 (putE env dst (.pointer (some ⟨b, 0, none⟩))) (bk b t vs :: L) rest) (hg : gd ops n env g = some true := by rfl) (hx : ev n env x = some (.agg vs.toArray) := by rfl) :
    CX P ops Q n e0 env L (⟨dst, .box t x, ty, pos, aft, g⟩ :: rest) := CX.boxG hg hx h
theorem CX.loadA {t : Nat} [S : TyS P t] {x : Operand} {b o : Nat} (v : Value) (hc : CellAt L b o v) (h : CX P ops Q n e0 (putE env dst v) L rest) (hg : gd ops n env g = some true := by rfl) (hx : ev n env x = some (.pointer (some ⟨b, o, none⟩)) := by rfl) :
    CX P ops Q n e0 env L (⟨dst, .load t x, ty, pos, aft, g⟩ :: rest) := CX.ps (PS.load hg hx hc) h
theorem CX.storeB {t sz : Nat} [Z : SzT P t sz] {x y : Operand} {b bt : Nat} {cs vs : List Value} (hv : vs.length = sz) (hc : cs.length = sz) (ho : ∀ u ∈ vs, u.oneCell' = true) (h : CX P ops Q n e0 (putE env dst undef) L' rest)
    (hg : gd ops n env g = some true := by rfl) (hx : ev n env x = some (.pointer (some ⟨b, 0, none⟩)) := by rfl) (hy : ev n env y = some (.agg vs.toArray) := by rfl) (hu : Upd (bk b bt cs) (bk b bt vs) L L' := by first | exact pickA | exact updA) :
    CX P ops Q n e0 env L (⟨dst, .store t x y, ty, pos, aft, g⟩ :: rest) := CX.storeAll hg hx hy hu hv hc ho h
theorem CX.indexA {t e sz : Nat} [E : ElemA P t e sz] {x y : Operand} {b o len cap : Nat} (j : Nat) {k : IntKind} {i : Int} (hl : j < len) (h : CX P ops Q n e0 (putE env dst (.pointer (some ⟨b, o + j * sz, none⟩))) L rest)
    (hg : gd ops n env g = some true := by rfl) (hx : ev n env x = some (.slice (some ⟨b, o, none⟩) len cap) := by rfl) (hy : ev n env y = some (.int k i) := by rfl) (hi : i = (j : Int) := by first | rfl | omega) :
    CX P ops Q n e0 env L (⟨dst, .indexAddr t x y, ty, pos, aft, g⟩ :: rest) := CX.ps (PS.indexAddr hg hx hy hi hl) h
theorem CX.indexOA {t e sz : Nat} [E : ElemA P t e sz] {x y : Operand} {a : Option Addr} {len cap : Nat} (j : Nat) {k : IntKind} {i : Int} {xs : List Value} {M : List Assn} (hl : j < len)
    (h : ∀ b, a = some ⟨b, 0, none⟩ → CX P ops Q n e0 (putE env dst (.pointer (some ⟨b, j * sz, none⟩))) L rest) (hg : gd ops n env g = some true := by rfl) (hx : ev n env x = some (.slice a len cap) := by rfl)
    (hy : ev n env y = some (.int k i) := by rfl) (hi : i = (j : Int) := by first | rfl | omega) (p : Pick (own e sz a len cap xs) L M := by first | exact pickA | exact updA) : CX P ops Q n e0 env L (⟨dst, .indexAddr t x y, ty, pos, aft, g⟩ :: rest) := CX.indexOwn hg hx hy hi p hl h
variable {R : List Assn} {s : Order} {T : Nat → Bool}
theorem CH.pureA {i : Nat} {v : Value} (h : CH P ops Q n e0 T R (putE env dst v) L s) (ho : ops[i]? = some ⟨dst, op, ty, pos, aft, g⟩ := by rfl) (hp : PS P ops n env [] ⟨dst, op, ty, pos, aft, g⟩ v := by first | (apply PS.cmpT; (· rfl); (· rfl); (· first | assumption | omega | rfl | decide)) | (apply PS.cmpF; (· rfl); (· rfl); (· first | assumption | omega | rfl | decide)) | (apply PS.cmp <;> rfl) | (apply PS.notD <;> rfl) | (apply PS.auto <;> rfl) | (apply PS.fieldAddr <;> rfl) | (apply PS.load; (· rfl); (· rfl); (· apply CellAt.pick; (· first | exact pickA | exact updA); (· rfl))) | (apply PS.arith; (· rfl); (· rfl); (· simp only [inR]; omega)) | (apply PS.convR; (· rfl); (· rfl); (· simp only [inR]; omega)) | (apply PS.lenSl <;> rfl) | (apply PS.capSl <;> rfl) | (apply PS.maxI <;> rfl) | (apply PS.minI <;> rfl) | (apply PS.eqlPtrNil <;> rfl) | (apply PS.neqPtrNil <;> rfl) | (apply PS.eqlSlNil <;> rfl) | (apply PS.makeFunc <;> rfl) | (apply PS.fieldS <;> rfl)) : CH P ops Q n e0 T R env L ((i, 0) :: s) := CH.pure ho hp h
theorem CH.readA {i : Nat} {v : Value} {M : List Assn} (h : CH P ops Q n e0 T R (putE env dst v) L s) (ho : ops[i]? = some ⟨dst, op, ty, pos, aft, g⟩ := by rfl) (hp : PS P ops n env R ⟨dst, op, ty, pos, aft, g⟩ v := by first | (apply PS.cmpT; (· rfl); (· rfl); (· first | assumption | omega | rfl | decide)) | (apply PS.cmpF; (· rfl); (· rfl); (· first | assumption | omega | rfl | decide)) | (apply PS.cmp <;> rfl) | (apply PS.notD <;> rfl) | (apply PS.auto <;> rfl) | (apply PS.fieldAddr <;> rfl) | (apply PS.load; (· rfl); (· rfl); (· apply CellAt.pick; (· first | exact pickA | exact updA); (· rfl))) | (apply PS.arith; (· rfl); (· rfl); (· simp only [inR]; omega)) | (apply PS.convR; (· rfl); (· rfl); (· simp only [inR]; omega)) | (apply PS.lenSl <;> rfl) | (apply PS.capSl <;> rfl) | (apply PS.maxI <;> rfl) | (apply PS.minI <;> rfl) | (apply PS.eqlPtrNil <;> rfl) | (apply PS.neqPtrNil <;> rfl) | (apply PS.eqlSlNil <;> rfl) | (apply PS.makeFunc <;> rfl) | (apply PS.fieldS <;> rfl)) (hr : Sel L R M := by exact selA) : CH P ops Q n e0 T R env L ((i, 1) :: s) := CH.read ho hp hr h
theorem CH.skA {i k : Nat} (h : CH P ops Q n e0 T R (putE env dst undef) L s) (hk : Nat.ble k 1 = true := by rfl) (ho : ops[i]? = some ⟨dst, op, ty, pos, aft, g⟩ := by rfl) (hg : gd ops n env g = some false := by rfl) : CH P ops Q n e0 T R env L ((i, k) :: s) := CH.skip hk ho hg h
theorem CH.skCA {i k : Nat} (h : CH P ops Q n e0 T R (putE env dst undef) L s) (hk : Nat.ble k 1 = false := by rfl) (ho : ops[i]? = some ⟨dst, op, ty, pos, aft, g⟩ := by rfl) (hg : gd ops n env g = some false := by rfl) : CH P ops Q n e0 T R env L ((i, k) :: s) := CH.skipC hk ho hg h
end
/-- As many steps as go by themselves. -/
structure Hd (q : Prop) : Prop where
  g : q
theorem wk {p q : Prop} (h : q) (k : Hd q → p := by intro h; (repeat (first | refine CX.psA ?_ | refine CX.nil ?_ | refine CQ.thenN ?_ | refine CQ.thenR ?_ | refine CQ.thenX ?_ | refine CQ.blockN ?_ | refine CQ.blockR ?_ | refine CQ.blockX ?_ | refine CQ.blockYA ?_ | refine CC.seq ?_ | refine CC.block ?_ | refine CC.region ?_ | refine CC.skip ?_ | refine CC.ret ?_ | refine CC.exit ?_ | refine CC.condTA ?_ | refine CC.condFA ?_ | refine CC.condDTA ?_ | refine CC.condDFA ?_ | refine CX.storeA ?_ | refine CX.skipA ?_)); exact h.g) : p := k ⟨h⟩
theorem wnk {p q : Prop} (h : q) (k : Hd q → p := by intro h; (repeat (first | refine CX.psA ?_ | refine CX.nil ?_ | refine CQ.thenN ?_ | refine CQ.thenX ?_ | refine CQ.blockN ?_ | refine CQ.blockX ?_ | refine CQ.blockYA ?_ | refine CC.seq ?_ | refine CC.block ?_ | refine CC.skip ?_ | refine CC.exit ?_ | refine CC.condTA ?_ | refine CC.condFA ?_ | refine CC.condDTA ?_ | refine CC.condDFA ?_ | refine CX.storeA ?_ | refine CX.skipA ?_)); exact h.g) : p := k ⟨h⟩
theorem hwk {p q : Prop} (h : q) (k : Hd q → p := by intro h; (repeat (first | refine CH.pureA ?_ | refine CH.readA ?_ | refine CH.skA ?_ | refine CH.skCA ?_ | refine CH.nil ?_)); exact h.g) : p := k ⟨h⟩
end Go.Cx
/-! Bits of whole numbers that are not negative. -/
namespace Go.Cx
def uns (k : IntKind) : Bool := match k with | .u8 => true | .u32 => true | .u64 => true | _ => false
theorem wrap_uns {k : IntKind} (h : uns k = true) {r : Nat} (hr : r < 2 ^ k.bits) : k.wrap (r : Int) = (r : Int) := by
  cases k <;> simp only [uns, IntKind.bits] at h hr <;> first | exact wr_u8 (by omega) (by omega) | exact wr_u32 (by omega) (by omega) | exact wr_u64 (by omega) (by omega) | exact absurd h (by decide)
section
variable {P : Program} {ops : Array Oper} {n : Nat} {env : Env} {L : List Assn}
variable {dst : Option Tmp} {ty : TypeId} {pos : String} {aft : Array Edge} {g : Option (Nat × Bool)}
theorem run_xor {k : IntKind} (h : uns k = true) {a b : Nat} (ha : a < 2 ^ k.bits) (hb : b < 2 ^ k.bits) (w : World) : (Op.intBits .xor k (a : Int) (b : Int)).run P w = .ok (.int k ((a ^^^ b : Nat) : Int)) w := by
  have h1 : a ^^^ b < 2 ^ k.bits := Nat.xor_lt_two_pow ha hb
  simp [Op.intBits, Nat.mod_eq_of_lt ha, Nat.mod_eq_of_lt hb, wrap_uns h h1]
theorem run_and {k : IntKind} (h : uns k = true) {a b : Nat} (ha : a < 2 ^ k.bits) (hb : b < 2 ^ k.bits) (w : World) : (Op.intBits .and k (a : Int) (b : Int)).run P w = .ok (.int k ((a &&& b : Nat) : Int)) w := by
  have h1 : a &&& b < 2 ^ k.bits := Nat.and_lt_two_pow a hb
  simp [Op.intBits, Nat.mod_eq_of_lt ha, Nat.mod_eq_of_lt hb, wrap_uns h h1]
theorem run_or {k : IntKind} (h : uns k = true) {a b : Nat} (ha : a < 2 ^ k.bits) (hb : b < 2 ^ k.bits) (w : World) : (Op.intBits .or k (a : Int) (b : Int)).run P w = .ok (.int k ((a ||| b : Nat) : Int)) w := by
  have h1 : a ||| b < 2 ^ k.bits := Nat.or_lt_two_pow ha hb
  simp [Op.intBits, Nat.mod_eq_of_lt ha, Nat.mod_eq_of_lt hb, wrap_uns h h1]
theorem PS.xorN {t u : TypeId} {x y : Operand} {k : IntKind} (a b : Nat) (h : uns k = true) (ha : a < 2 ^ k.bits) (hb : b < 2 ^ k.bits) (hg : gd ops n env g = some true) (hx : ev n env x = some (.int k (a : Int))) (hy : ev n env y = some (.int k (b : Int))) :
    PS P ops n env L ⟨dst, .binOp .xor t x y u, ty, pos, aft, g⟩ (.int k ((a ^^^ b : Nat) : Int)) :=
  ⟨hg, fun a' w hf _ => by simp [execOp, hf.eval hx, hf.eval hy, eqGuard_int, Go.binOp, run_xor h ha hb]⟩
theorem PS.andN {t u : TypeId} {x y : Operand} {k : IntKind} (a b : Nat) (h : uns k = true) (ha : a < 2 ^ k.bits) (hb : b < 2 ^ k.bits) (hg : gd ops n env g = some true) (hx : ev n env x = some (.int k (a : Int))) (hy : ev n env y = some (.int k (b : Int))) :
    PS P ops n env L ⟨dst, .binOp .and t x y u, ty, pos, aft, g⟩ (.int k ((a &&& b : Nat) : Int)) :=
  ⟨hg, fun a' w hf _ => by simp [execOp, hf.eval hx, hf.eval hy, eqGuard_int, Go.binOp, run_and h ha hb]⟩
theorem PS.orN {t u : TypeId} {x y : Operand} {k : IntKind} (a b : Nat) (h : uns k = true) (ha : a < 2 ^ k.bits) (hb : b < 2 ^ k.bits) (hg : gd ops n env g = some true) (hx : ev n env x = some (.int k (a : Int))) (hy : ev n env y = some (.int k (b : Int))) :
    PS P ops n env L ⟨dst, .binOp .or t x y u, ty, pos, aft, g⟩ (.int k ((a ||| b : Nat) : Int)) :=
  ⟨hg, fun a' w hf _ => by simp [execOp, hf.eval hx, hf.eval hy, eqGuard_int, Go.binOp, run_or h ha hb]⟩
theorem run_neBool {t : TypeId} (hu : P.underlying t = some .bool) (a b : Bool) (w : World) : (Go.binOp .neq t (.bool a) (.bool b)).run P w = .ok (.bool (a != b)) w := by
  have h : ∀ k : Nat, (Op.equalIn (k + 1) t (.bool a) (.bool b)).run P w = .ok (a == b) w := fun k => by simp [Op.equalIn, run_underlying hu]
  simp only [Go.binOp]
  simp [Op.equal, Op.maxDepth, h 9999, bne]
variable {Q : Exit → Act → World → Prop} {e0 : World} {rest : List Oper}
theorem run_buildSl0 {t e sz : Nat} (E : P.underlying t = some (.slice e)) (hs : ∀ w, (sizeOf e).run P w = .ok sz w) (w : World) : (Instr.buildSlice t 0 #[]).run P w = .ok (.slice (some ⟨w.heap.size, 0, none⟩) 0 0) (w.alloc (.cells #[] e)) := by
  simp [Instr.buildSlice, Sem.run_bind, run_underlying E, hs, Instr.fill, newRow, newObj, Sem.run]
  have : (Array.range 0) = #[] := by decide
  rw [this]; simp
/-- A slice of nothing that is not nil. -/
theorem CX.buildSl0 {t e sz : Nat} [E : ElemA P t e sz] (h : ∀ b, CX P ops Q n e0 (putE env dst (.slice (some ⟨b, 0, none⟩) 0 0)) (own e sz (some ⟨b, 0, none⟩) 0 0 [] :: L) rest) (hg : gd ops n env g = some true := by rfl) :
    CX P ops Q n e0 env L (⟨dst, .buildSlice t 0 #[], ty, pos, aft, g⟩ :: rest) := by
  refine CX.step hg fun a w hfr hs he K hK => ?_
  have hr2 : (execOp a.eval ⟨dst, .buildSlice t 0 #[], ty, pos, aft, g⟩).run P w = .ok (.value (.slice (some ⟨w.heap.size, 0, none⟩) 0 0)) (w.alloc (.cells #[] e)) := by
    have := run_buildSl0 E.under E.size w
    simp only [execOp, Sem.run_bind, List.map_toArray, List.map_nil, Array.map_empty, this, Result.andThen_ok, Sem.run_pure]
  unfold Oper.wp
  rw [hr2]
  refine hK _ _ (h w.heap.size _ _ (hfr.put dst _) ?_ (he.trans ⟨rfl, rfl, rfl⟩))
  rw [ph_alloc]
  exact hs.push (ph_size w) fun k hk => own_ok.2 ⟨by simp, Nat.le_refl _, Nat.zero_le _, .inr ⟨_, #[], rfl, hk, by simp, by simp⟩⟩
theorem CQ.fact {K : Act → World → Prop} {p : Prop} (hp : ∀ h, Sep L h → p) (h : p → CQ K n e0 env L) : CQ K n e0 env L := fun a w hf hs he => h (hp _ hs) a w hf hs he
/-- Where an owned slice stands that is not empty. -/
theorem own_some {e sz m cap : Nat} {a : Option Addr} {xs : List Value} {h : PH} (o : (own e sz a m cap xs).ok h) : a = none ∧ m = 0 ∧ cap = 0 ∨ ∃ b, a = some ⟨b, 0, none⟩ := by
  obtain ⟨h1, h2, h3, h4⟩ := own_ok.1 o
  rcases h4 with ⟨rfl, rfl⟩ | ⟨g, _, rfl, _⟩
  · exact .inl ⟨rfl, by omega, rfl⟩
  · exact .inr ⟨g, rfl⟩
end
end Go.Cx
/-! Numbers as bytes, rests, sealed blocks: plain laws. No program in sight. -/
namespace Go.Cx
/-! ### Numbers as bytes -/
def le : Nat → Nat → Blk
  | 0, _ => []
  | k + 1, n => UInt8.ofNat n :: le k (n / 256)
def ofLe : Blk → Nat
  | [] => 0
  | b :: r => b.toNat + 256 * ofLe r
@[simp] theorem length_le (k n : Nat) : (le k n).length = k := by
  induction k generalizing n with
  | zero => rfl
  | succ k ih => simp [le, ih]
theorem ofLe_lt (b : Blk) : ofLe b < 256 ^ b.length := by
  induction b with
  | nil => simp [ofLe]
  | cons x b ih =>
    have := x.toNat_lt
    simp only [ofLe, List.length_cons, Nat.pow_succ]
    omega
theorem ofLe_le (k n : Nat) (h : n < 256 ^ k) : ofLe (le k n) = n := by
  induction k generalizing n with
  | zero => simp [le, ofLe] at *; omega
  | succ k ih =>
    rw [Nat.pow_succ] at h
    simp only [le, ofLe]
    rw [ih (n / 256) (by omega)]
    simp; omega
theorem le_ofLe (b : Blk) : le b.length (ofLe b) = b := by
  induction b with
  | nil => rfl
  | cons x b ih =>
    have := x.toNat_lt
    simp only [ofLe, List.length_cons, le]
    have h1 : (x.toNat + 256 * ofLe b) / 256 = ofLe b := by omega
    rw [h1, ih]
    congr 1
    apply UInt8.toNat_inj.1
    simp
theorem ofLe_append (a b : Blk) : ofLe (a ++ b) = ofLe a + 256 ^ a.length * ofLe b := by
  induction a with
  | nil => simp [ofLe]
  | cons x a ih => simp only [List.cons_append, ofLe, ih, List.length_cons, Nat.pow_succ]; rw [Nat.mul_add, Nat.mul_comm (256 ^ a.length) 256, Nat.mul_assoc, Nat.add_assoc]
theorem le_snoc (k n : Nat) : le (k + 1) n = le k n ++ [UInt8.ofNat (n / 256 ^ k)] := by
  induction k generalizing n with
  | zero => simp [le]
  | succ k ih =>
    rw [show le (k + 1 + 1) n = UInt8.ofNat n :: le (k + 1) (n / 256) from rfl, ih]
    simp only [le, List.cons_append]
    rw [Nat.pow_succ, Nat.div_div_eq_div_mul, Nat.mul_comm 256]

/-! ### Rests -/
def poly : Nat := 0x82f63b78
def bit1 (r : Nat) : Nat := (r >>> 1) ^^^ (if r.testBit 0 then poly else 0)
def bits : Nat → Nat → Nat
  | 0, r => r
  | k + 1, r => bits k (bit1 r)
def intoM (r : Nat) (c : UInt8) : Nat := bits 8 (r ^^^ c.toNat)
def restM (r : Nat) (b : Blk) : Nat := b.foldl intoM r
def crcM (b : Blk) : Nat := restM 4294967295 b ^^^ 4294967295
theorem xor4 (a b c d : Nat) : (a ^^^ b) ^^^ (c ^^^ d) = (a ^^^ c) ^^^ (b ^^^ d) := by
  rw [Nat.xor_assoc, ← Nat.xor_assoc b, Nat.xor_comm b c, Nat.xor_assoc c, ← Nat.xor_assoc]
theorem bit1_xor (x y : Nat) : bit1 (x ^^^ y) = bit1 x ^^^ bit1 y := by
  unfold bit1
  rw [Nat.shiftRight_xor_distrib, Nat.testBit_xor, xor4]
  congr 1
  cases x.testBit 0 <;> cases y.testBit 0 <;> simp
theorem bits_xor (k x y : Nat) : bits k (x ^^^ y) = bits k x ^^^ bits k y := by
  induction k generalizing x y with
  | zero => rfl
  | succ k ih => simp only [bits]; rw [bit1_xor, ih]
theorem bits_add (j k r : Nat) : bits (j + k) r = bits k (bits j r) := by
  induction j generalizing r with
  | zero => simp [bits]
  | succ j ih => rw [Nat.succ_add]; simp only [bits]; exact ih _
theorem bit1_lt {r : Nat} (h : r < 2 ^ 32) : bit1 r < 2 ^ 32 := by
  unfold bit1
  refine Nat.xor_lt_two_pow ?_ ?_
  · rw [Nat.shiftRight_eq_div_pow]; omega
  · split <;> decide
theorem bits_lt (k : Nat) {r : Nat} (h : r < 2 ^ 32) : bits k r < 2 ^ 32 := by
  induction k generalizing r with
  | zero => exact h
  | succ k ih => exact ih (bit1_lt h)
theorem xor_zero {a b : Nat} (e : a ^^^ b = 0) : a = b := by
  have := congrArg (· ^^^ b) e
  simpa [Nat.xor_assoc] using this
theorem bit1_dbl (h : Nat) : bit1 (h <<< 1) = h := by
  unfold bit1
  simp [Nat.shiftLeft_eq, Nat.shiftRight_eq_div_pow, Nat.testBit_zero]
theorem bits_shl (k h : Nat) : bits k (h <<< k) = h := by
  induction k generalizing h with
  | zero => rfl
  | succ k ih => rw [show h <<< (k + 1) = (h <<< k) <<< 1 from by rw [← Nat.shiftLeft_add]]; simp only [bits]; rw [bit1_dbl, ih]
theorem nib_split (r : Nat) : r = ((r >>> 4) <<< 4) ^^^ (r &&& 15) := by
  apply Nat.eq_of_testBit_eq
  intro i
  rw [Nat.testBit_xor, Nat.testBit_shiftLeft, Nat.testBit_and, show (15 : Nat) = 2 ^ 4 - 1 from rfl, Nat.testBit_two_pow_sub_one, Nat.testBit_shiftRight]
  by_cases h : i < 4
  · simp [h]; have : ¬ 4 ≤ i := by omega
    simp [this]
  · simp [h]; rw [show 4 + (i - 4) = i by omega]; have h4 : 4 ≤ i := by omega
    simp [h4]
def four (j : Nat) : Nat := bits 4 j
theorem bits4 (r : Nat) : bits 4 r = (r >>> 4) ^^^ four (r &&& 15) := by
  conv => lhs; rw [nib_split r]
  rw [bits_xor, bits_shl]; rfl
/-- Half a byte goes into a rest. -/
def nibM (r h : Nat) : Nat := (r >>> 4) ^^^ four ((r &&& 15) ^^^ h)
theorem nib_bits {r h : Nat} (hh : h < 16) : bits 4 (r ^^^ h) = nibM r h := by
  have h0 : h >>> 4 = 0 := by rw [Nat.shiftRight_eq_div_pow]; omega
  have h1 : h &&& 15 = h := by rw [show (15 : Nat) = 2 ^ 4 - 1 from rfl, Nat.and_two_pow_sub_one_eq_mod]; omega
  rw [bits4, nibM, Nat.shiftRight_xor_distrib, h0, Nat.xor_zero, Nat.and_xor_distrib_right, h1]
theorem into_nib (r : Nat) (c : UInt8) : intoM r c = nibM (nibM r (c.toNat &&& 15)) (c.toNat >>> 4) := by
  have hc := c.toNat_lt
  have h1 : c.toNat &&& 15 < 16 := by rw [show (15 : Nat) = 2 ^ 4 - 1 from rfl, Nat.and_two_pow_sub_one_eq_mod]; omega
  have h2 : c.toNat >>> 4 < 16 := by rw [Nat.shiftRight_eq_div_pow]; omega
  rw [intoM, show (8 : Nat) = 4 + 4 from rfl, bits_add, ← nib_bits h2, ← nib_bits h1]
  congr 1
  conv => lhs; rw [nib_split c.toNat]
  rw [Nat.xor_comm (_ <<< 4), ← Nat.xor_assoc, bits_xor, bits_shl]
theorem nib_lt {r h : Nat} (hr : r < 2 ^ 32) (hh : h < 16) : nibM r h < 2 ^ 32 := by
  rw [← nib_bits hh]; exact bits_lt 4 (Nat.xor_lt_two_pow hr (by omega))
theorem into_lt {r : Nat} (hr : r < 2 ^ 32) (c : UInt8) : intoM r c < 2 ^ 32 := by
  have := c.toNat_lt
  exact bits_lt 8 (Nat.xor_lt_two_pow hr (by omega))
theorem rest_lt {r : Nat} (hr : r < 2 ^ 32) (b : Blk) : restM r b < 2 ^ 32 := by
  induction b generalizing r with
  | nil => exact hr
  | cons c b ih => exact ih (into_lt hr c)
theorem crc_lt (b : Blk) : crcM b < 2 ^ 32 := Nat.xor_lt_two_pow (rest_lt (by decide) b) (by decide)
theorem rest_append (r : Nat) (a b : Blk) : restM r (a ++ b) = restM (restM r a) b := List.foldl_append
end Go.Cx
namespace Go.Cx
/-! ### Blocks that were written as a whole -/
def top : Nat := 18446744073709551615
def padB (k : Nat) (b : Blk) : Blk := b ++ List.replicate (k - b.length) 0
def frontB (n : Nat) (body : Blk) : Blk := le 8 n ++ padB 108 body
def sealB (n : Nat) (body : Blk) : Blk := frontB n body ++ (le 4 (crcM (frontB n body)) ++ le 8 (top - n))
/-- It is one. -/
structure Valid (b : Blk) : Prop where
  num : 1 ≤ ofLe (b.take 8)
  fin : ofLe (b.drop 120) = top - ofLe (b.take 8)
  sum : ofLe ((b.drop 116).take 4) = crcM (b.take 116)
def putM (n : Nat) (body : Blk) : Blk × Int := if n = 0 then (zblk, 2) else if 108 < body.length then (zblk, 3) else (sealB n body, 0)
def getM (b : Blk) : Nat × Blk × Int :=
  if ofLe (b.take 8) < 1 ∨ ofLe (b.drop 120) ≠ top - ofLe (b.take 8) then (0, [], 5)
  else if ofLe ((b.drop 116).take 4) ≠ crcM (b.take 116) then (0, [], 6) else (ofLe (b.take 8), (b.drop 8).take 108, 0)
theorem get_ok {b : Blk} (h : Valid b) : getM b = (ofLe (b.take 8), (b.drop 8).take 108, 0) := by
  unfold getM
  rw [if_neg (by have := h.num; have := h.fin; omega), if_neg (by simp [h.sum])]
theorem get_valid {b : Blk} (h : (getM b).2.2 = 0) : Valid b := by
  unfold getM at h
  split at h
  · simp at h
  · split at h
    · simp at h
    · exact ⟨by omega, by omega, by omega⟩
theorem get_bad {b : Blk} (h : ¬ Valid b) : (getM b).1 = 0 ∧ (getM b).2.1 = [] ∧ (getM b).2.2 ≠ 0 := by
  unfold getM
  split
  · exact ⟨rfl, rfl, by decide⟩
  · split
    · exact ⟨rfl, rfl, by decide⟩
    · exact absurd ⟨by omega, by omega, by omega⟩ h
theorem padB_len {k : Nat} {b : Blk} (h : b.length ≤ k) : (padB k b).length = k := by simp [padB]; omega
theorem front_len {n : Nat} {b : Blk} (h : b.length ≤ 108) : (frontB n b).length = 116 := by simp [frontB, padB_len h]
theorem sealB_WB {n : Nat} {b : Blk} (h : b.length ≤ 108) : WB (sealB n b) := by simp [WB, sealB, front_len h]
theorem sealB_8 (n : Nat) (b : Blk) : (sealB n b).take 8 = le 8 n := by simp [sealB, frontB]
theorem sealB_116 {n : Nat} {b : Blk} (h : b.length ≤ 108) : (sealB n b).take 116 = frontB n b := by
  rw [sealB, List.take_append_of_le_length (by rw [front_len h]; omega), List.take_of_length_le (by rw [front_len h]; omega)]
theorem sealB_d116 {n : Nat} {b : Blk} (h : b.length ≤ 108) : (sealB n b).drop 116 = le 4 (crcM (frontB n b)) ++ le 8 (top - n) := by
  rw [sealB, List.drop_append, List.drop_of_length_le (by rw [front_len h]; omega), front_len h]; simp
theorem sealB_120 {n : Nat} {b : Blk} (h : b.length ≤ 108) : (sealB n b).drop 120 = le 8 (top - n) := by
  rw [show 120 = 116 + 4 from rfl, ← List.drop_drop, sealB_d116 h, List.drop_append]; simp
theorem sealB_body {n : Nat} {b : Blk} (h : b.length ≤ 108) : ((sealB n b).drop 8).take 108 = padB 108 b := by
  have h1 : ((sealB n b).take 116).drop 8 = ((sealB n b).drop 8).take 108 := by rw [List.drop_take]
  rw [← h1, sealB_116 h, frontB, List.drop_append]; simp
theorem ofLe8 {n : Nat} (h : n ≤ top) : ofLe (le 8 n) = n := ofLe_le 8 n (by simp only [top] at h; omega)
theorem valid_sealB {n : Nat} {b : Blk} (h1 : 1 ≤ n) (h2 : n ≤ top) (h : b.length ≤ 108) : Valid (sealB n b) := by
  refine ⟨?_, ?_, ?_⟩
  · rw [sealB_8, ofLe8 h2]; exact h1
  · rw [sealB_8, sealB_120 h, ofLe8 h2, ofLe8 (by omega)]
  · rw [sealB_d116 h, sealB_116 h, List.take_append_of_le_length (by simp), List.take_of_length_le (by simp)]
    exact ofLe_le 4 _ (crc_lt _)
theorem get_sealB {n : Nat} {b : Blk} (h1 : 1 ≤ n) (h2 : n ≤ top) (h : b.length ≤ 108) : getM (sealB n b) = (n, padB 108 b, 0) := by
  rw [get_ok (valid_sealB h1 h2 h), sealB_8, sealB_body h, ofLe8 h2]
/-- Whoever fits is sealed. -/
theorem valid_eq {b : Blk} (w : WB b) (v : Valid b) : b = sealB (ofLe (b.take 8)) ((b.drop 8).take 108) := by
  have w' : b.length = 128 := w
  have e1 : le 8 (ofLe (b.take 8)) = b.take 8 := by have := le_ofLe (b.take 8); rwa [show (b.take 8).length = 8 by simp; omega] at this
  have e2 : padB 108 ((b.drop 8).take 108) = (b.drop 8).take 108 := by simp [padB, w']
  have e3 : frontB (ofLe (b.take 8)) ((b.drop 8).take 108) = b.take 116 := by
    rw [frontB, e1, e2, show 116 = 8 + 108 from rfl, List.take_add]
  have e4 : le 4 (crcM (b.take 116)) = (b.drop 116).take 4 := by
    rw [← v.sum]; have := le_ofLe ((b.drop 116).take 4); rwa [show ((b.drop 116).take 4).length = 4 by simp; omega] at this
  have e5 : le 8 (top - ofLe (b.take 8)) = b.drop 120 := by
    rw [← v.fin]; have := le_ofLe (b.drop 120); rwa [show (b.drop 120).length = 8 by simp; omega] at this
  rw [sealB, e3, e4, e5, show 120 = 116 + 4 from rfl, ← List.drop_drop, List.take_append_drop, List.take_append_drop]
theorem valid_top {b : Blk} (w : WB b) : ofLe (b.take 8) ≤ top := by
  have h := ofLe_lt (b.take 8)
  have w' : b.length = 128 := w
  rw [show (b.take 8).length = 8 by simp; omega] at h
  simp only [top]; omega
/-! ### Blocks of which only a beginning was written -/
theorem torn_len {a b : Blk} {n : Nat} (ha : WB a) (hb : WB b) : WB (torn a b n) := by unfold WB torn at *; simp; omega
end Go.Cx
/-! Stepping: strings of bytes, shifts, words of bits. No program in sight. -/
namespace Go.Cx
theorem not64 {n : Nat} (h : n ≤ 18446744073709551615) : 18446744073709551615 ^^^ n = 18446744073709551615 - n := by
  have h1 : (BitVec.ofNat 64 n ^^^ BitVec.allOnes 64).toNat = 18446744073709551615 ^^^ n := by
    rw [BitVec.toNat_xor, BitVec.toNat_ofNat, BitVec.toNat_allOnes, Nat.xor_comm, Nat.mod_eq_of_lt (by omega)]
  rw [← h1, BitVec.xor_allOnes, BitVec.toNat_not, BitVec.toNat_ofNat, Nat.mod_eq_of_lt (by omega)]
theorem fdiv_nat (a b : Nat) : Int.fdiv (a : Int) (b : Int) = ((a / b : Nat) : Int) := by
  rw [Int.fdiv_eq_ediv_of_nonneg _ (Int.natCast_nonneg b)]; exact Int.natCast_ediv a b
theorem or_low {a b k : Nat} (h : b < 2 ^ k) : (a * 2 ^ k) ||| b = a * 2 ^ k + b := by
  rw [← Nat.shiftLeft_eq]; exact (Nat.shiftLeft_add_eq_or_of_lt h a).symm
theorem wrap_mod {k : IntKind} (h : uns k = true) (a : Nat) : k.wrap (a : Int) = ((a % 2 ^ k.bits : Nat) : Int) := by
  cases k <;> simp only [uns] at h <;> first | exact absurd h (by decide) | (simp only [IntKind.wrap, IntKind.bits, IntKind.signed]; simp)
/-- A string of bytes. -/
def sv (b : Blk) : Value := .string ⟨b.toArray⟩
theorem strOf_ib (b : Blk) : strOfNums (ib b) = ⟨b.toArray⟩ := by
  unfold strOfNums ib
  congr 2
  rw [List.map_map]
  conv => rhs; rw [← List.map_id b]
  apply List.map_congr_left
  intro x _
  simp
section
variable {P : Program} {ops : Array Oper} {n : Nat} {env : Env} {L : List Assn}
variable {dst : Option Tmp} {ty : TypeId} {pos : String} {aft : Array Edge} {g : Option (Nat × Bool)}
theorem PS.toStr {s t e sz : Nat} [E : ElemA P s e sz] [I : IntT P e .u8] [S : StrT P t] {x : Operand} {a : Option Addr} {len cap : Nat} {b : Blk} (hg : gd ops n env g = some true) (hx : ev n env x = some (.slice a len cap)) (hl : len = b.length)
    (hr : ∀ h, Sep L h → rdx a len (cb b) h) : PS P ops n env L ⟨dst, .convert s t x, ty, pos, aft, g⟩ (sv b) :=
  ⟨hg, fun ac w hf hs => by
    subst hl
    have key : (convert s t (.slice a b.length cap)).run P w = .ok (sv b) w := by
      cases a with
      | none =>
        have h0 : b.length = 0 := by
          rcases hr _ hs with h | ⟨_, _, _, _, _, h, _⟩
          · exact h
          · cases h
        obtain rfl : b = [] := List.eq_nil_of_length_eq_zero h0
        rw [run_convert_bytes_nil w s e E.under I.under _ _ t S.under]; rfl
      | some ad =>
        rcases hr _ hs with h0 | ⟨q, off, cs, bt, fr, ea, hq, hc⟩
        · obtain rfl : b = [] := List.eq_nil_of_length_eq_zero h0
          rw [run_convert_bytes_string w s t e _ _ cap E.under I.under S.under, show ([] : Blk).length = 0 from rfl, run_bytesToString w ad 0 cap [] (by simp [loadCells, loadCellsFrom])]
          rfl
        · obtain rfl := Option.some.inj ea
          have := run_convert_bytes_arg (P := P) w s e E.under I.under q off b.length cap (ib b) (length_ib b) (fun i hi => by
            refine cell_ph hq (hc i _ ?_)
            have hi' : i < (ib b).length := by rw [length_ib]; exact hi
            simp [cb, ib, hi]) t S.under
          rw [this, strOf_ib]; rfl
    simp [execOp, hf.eval hx, key]⟩
theorem run_strEq {t : TypeId} (a b : Blk) (w : World) : (Go.binOp .eql t (sv a) (sv b)).run P w = .ok (.bool (decide (a = b))) w := by
  have : ((ByteArray.mk a.toArray).toList == (ByteArray.mk b.toArray).toList) = decide (a = b) := by rw [ByteArray.toList_eq, ByteArray.toList_eq, Bool.eq_iff_iff]; simp
  simp only [Go.binOp, sv, Op.stringOp, this]; simp
theorem run_strNe {t : TypeId} (a b : Blk) (w : World) : (Go.binOp .neq t (sv a) (sv b)).run P w = .ok (.bool (decide (a ≠ b))) w := by
  have : ((ByteArray.mk a.toArray).toList == (ByteArray.mk b.toArray).toList) = decide (a = b) := by rw [ByteArray.toList_eq, ByteArray.toList_eq, Bool.eq_iff_iff]; simp
  simp only [Go.binOp, sv, Op.stringOp, this]; simp
theorem PS.eqlStr {t u : TypeId} {x y : Operand} {a b : Blk} (hg : gd ops n env g = some true) (hx : ev n env x = some (sv a)) (hy : ev n env y = some (sv b)) :
    PS P ops n env L ⟨dst, .binOp .eql t x y u, ty, pos, aft, g⟩ (.bool (decide (a = b))) :=
  ⟨hg, fun ac w hf _ => by
    have h1 := hf.eval hx
    have h2 := hf.eval hy
    simp [execOp, h1, h2, run_strEq]; simp [eqGuard, sv]⟩
theorem PS.neqStr {t u : TypeId} {x y : Operand} {a b : Blk} (hg : gd ops n env g = some true) (hx : ev n env x = some (sv a)) (hy : ev n env y = some (sv b)) :
    PS P ops n env L ⟨dst, .binOp .neq t x y u, ty, pos, aft, g⟩ (.bool (decide (a ≠ b))) :=
  ⟨hg, fun ac w hf _ => by
    have h1 := hf.eval hx
    have h2 := hf.eval hy
    simp [execOp, h1, h2, run_strNe]; simp [eqGuard, sv]⟩
theorem PS.neqBool {t u : TypeId} {x y : Operand} {a b : Bool} (c : Bool) (hc : (a != b) = c) (hu : P.underlying t = some .bool) (hg : gd ops n env g = some true) (hx : ev n env x = some (.bool a)) (hy : ev n env y = some (.bool b)) :
    PS P ops n env L ⟨dst, .binOp .neq t x y u, ty, pos, aft, g⟩ (.bool c) :=
  ⟨hg, fun ac w hf _ => by subst hc; simp [execOp, hf.eval hx, hf.eval hy, eqGuard, run_neBool hu]⟩
/-- Words of bits: a shift by a number that is small. -/
theorem PS.shlN {t u : TypeId} {x y : Operand} {k k' : IntKind} (a s : Nat) (h : uns k = true) (hs : s ≤ k.bits) (hr : a * 2 ^ s < 2 ^ k.bits) (hg : gd ops n env g = some true) (hx : ev n env x = some (.int k (a : Int))) (hy : ev n env y = some (.int k' (s : Int))) :
    PS P ops n env L ⟨dst, .binOp .shl t x y u, ty, pos, aft, g⟩ (.int k ((a * 2 ^ s : Nat) : Int)) :=
  ⟨hg, fun ac w hf _ => by
    have e : k.wrap ((a : Int) * 2 ^ s) = ((a * 2 ^ s : Nat) : Int) := by
      have := wrap_uns h hr
      rw [← this]; simp
    have h0 : ¬ ((s : Int) < 0) := by omega
    have h1 : min s k.bits = s := Nat.min_eq_left hs
    simp [execOp, hf.eval hx, hf.eval hy, eqGuard_int, Go.binOp, Op.shift, h0, h1, e]⟩
theorem PS.shrN {t u : TypeId} {x y : Operand} {k k' : IntKind} (a s : Nat) (hs : s ≤ k.bits) (hg : gd ops n env g = some true) (hx : ev n env x = some (.int k (a : Int))) (hy : ev n env y = some (.int k' (s : Int))) :
    PS P ops n env L ⟨dst, .binOp .shr t x y u, ty, pos, aft, g⟩ (.int k ((a / 2 ^ s : Nat) : Int)) :=
  ⟨hg, fun ac w hf _ => by
    have e : Int.fdiv (a : Int) (2 ^ s) = ((a / 2 ^ s : Nat) : Int) := by rw [← fdiv_nat]; simp
    have h0 : ¬ ((s : Int) < 0) := by omega
    have h1 : min s k.bits = s := Nat.min_eq_left hs
    simp [execOp, hf.eval hx, hf.eval hy, eqGuard_int, Go.binOp, Op.shift, h0, h1, e]⟩
theorem PS.not64 {x : Operand} {t : TypeId} (a : Nat) (h : a ≤ 18446744073709551615) (hg : gd ops n env g = some true) (hx : ev n env x = some (.int .u64 (a : Int))) :
    PS P ops n env L ⟨dst, .unOp .xor t x, ty, pos, aft, g⟩ (.int .u64 ((18446744073709551615 - a : Nat) : Int)) :=
  PS.notInt hg hx fun w => by
    have := run_xor (P := P) (k := .u64) rfl (a := 18446744073709551615) (b := a) (by decide) (by simp only [IntKind.bits]; omega) w
    rw [Cx.not64 h] at this; exact this
theorem run_andK {k : IntKind} {a b : Nat} (ha : a < 2 ^ k.bits) (hb : b < 2 ^ k.bits) (hw : k.wrap ((a &&& b : Nat) : Int) = ((a &&& b : Nat) : Int)) (w : World) : (Op.intBits .and k (a : Int) (b : Int)).run P w = .ok (.int k ((a &&& b : Nat) : Int)) w := by
  simp [Op.intBits, Nat.mod_eq_of_lt ha, Nat.mod_eq_of_lt hb, hw]
theorem run_xorK {k : IntKind} {a b : Nat} (ha : a < 2 ^ k.bits) (hb : b < 2 ^ k.bits) (hw : k.wrap ((a ^^^ b : Nat) : Int) = ((a ^^^ b : Nat) : Int)) (w : World) : (Op.intBits .xor k (a : Int) (b : Int)).run P w = .ok (.int k ((a ^^^ b : Nat) : Int)) w := by
  simp [Op.intBits, Nat.mod_eq_of_lt ha, Nat.mod_eq_of_lt hb, hw]
theorem run_andI {a b : Nat} (ha : a < 9223372036854775808) (hb : b < 9223372036854775808) (w : World) : (Op.intBits .and .i64 (a : Int) (b : Int)).run P w = .ok (.int .i64 ((a &&& b : Nat) : Int)) w := by
  have h1 : a &&& b < 2 ^ 63 := Nat.and_lt_two_pow a (by simpa using hb)
  exact run_andK (k := .i64) (by simp only [IntKind.bits]; omega) (by simp only [IntKind.bits]; omega) (wr_i64 (by omega) (by omega)) w
theorem run_xorI {a b : Nat} (ha : a < 9223372036854775808) (hb : b < 9223372036854775808) (w : World) : (Op.intBits .xor .i64 (a : Int) (b : Int)).run P w = .ok (.int .i64 ((a ^^^ b : Nat) : Int)) w := by
  have h1 : a ^^^ b < 2 ^ 63 := Nat.xor_lt_two_pow (by simpa using ha) (by simpa using hb)
  exact run_xorK (k := .i64) (by simp only [IntKind.bits]; omega) (by simp only [IntKind.bits]; omega) (wr_i64 (by omega) (by omega)) w
theorem PS.andI {t u : TypeId} {x y : Operand} (a b : Nat) (ha : a < 9223372036854775808) (hb : b < 9223372036854775808) (hg : gd ops n env g = some true) (hx : ev n env x = some (.int .i64 (a : Int))) (hy : ev n env y = some (.int .i64 (b : Int))) :
    PS P ops n env L ⟨dst, .binOp .and t x y u, ty, pos, aft, g⟩ (.int .i64 ((a &&& b : Nat) : Int)) :=
  ⟨hg, fun a' w hf _ => by simp [execOp, hf.eval hx, hf.eval hy, eqGuard_int, Go.binOp, run_andI ha hb]⟩
theorem PS.xorI {t u : TypeId} {x y : Operand} (a b : Nat) (ha : a < 9223372036854775808) (hb : b < 9223372036854775808) (hg : gd ops n env g = some true) (hx : ev n env x = some (.int .i64 (a : Int))) (hy : ev n env y = some (.int .i64 (b : Int))) :
    PS P ops n env L ⟨dst, .binOp .xor t x y u, ty, pos, aft, g⟩ (.int .i64 ((a ^^^ b : Nat) : Int)) :=
  ⟨hg, fun a' w hf _ => by simp [execOp, hf.eval hx, hf.eval hy, eqGuard_int, Go.binOp, run_xorI ha hb]⟩
/-- A conversion to words of so many bits. -/
theorem PS.convM {s t : TypeId} {k k' : IntKind} [I : IntT P s k] [J : IntT P t k'] {x : Operand} (a m : Nat) (h : uns k' = true) (hm : m = a % 2 ^ k'.bits) (hg : gd ops n env g = some true) (hx : ev n env x = some (.int k (a : Int))) :
    PS P ops n env L ⟨dst, .convert s t x, ty, pos, aft, g⟩ (.int k' (m : Int)) := PS.convI hg hx (by rw [hm]; exact wrap_mod h a)
theorem PS.quoN {x y : Operand} {t u : TypeId} {k : IntKind} (a b : Nat) (hb : b ≠ 0) (h : uns k = true) (ha : a < 2 ^ k.bits) (hg : gd ops n env g = some true) (hx : ev n env x = some (.int k (a : Int))) (hy : ev n env y = some (.int k (b : Int))) :
    PS P ops n env L ⟨dst, .binOp .quo t x y u, ty, pos, aft, g⟩ (.int k ((a / b : Nat) : Int)) :=
  PS.quo hg hx hy (by omega) (by rw [tdiv_nn (by omega), ← Int.natCast_ediv]; exact wrap_uns h (Nat.lt_of_le_of_lt (Nat.div_le_self _ _) ha))
theorem PS.remN {x y : Operand} {t u : TypeId} {k : IntKind} (a b : Nat) (hb : b ≠ 0) (hg : gd ops n env g = some true) (hx : ev n env x = some (.int k (a : Int))) (hy : ev n env y = some (.int k (b : Int))) :
    PS P ops n env L ⟨dst, .binOp .rem t x y u, ty, pos, aft, g⟩ (.int k ((a % b : Nat) : Int)) :=
  PS.rem hg hx hy (by omega) (by rw [tmod_nn (by omega), ← Int.natCast_emod])
theorem PS.mulM {x y : Operand} {t u : TypeId} {k : IntKind} (a b : Nat) (h : uns k = true) (hg : gd ops n env g = some true) (hx : ev n env x = some (.int k (a : Int))) (hy : ev n env y = some (.int k (b : Int))) :
    PS P ops n env L ⟨dst, .binOp .mul t x y u, ty, pos, aft, g⟩ (.int k ((a * b % 2 ^ k.bits : Nat) : Int)) :=
  PS.mul hg hx hy (by rw [← Int.natCast_mul]; exact wrap_mod h _)
theorem PS.addM {x y : Operand} {t u : TypeId} {k : IntKind} (a b : Nat) (h : uns k = true) (hg : gd ops n env g = some true) (hx : ev n env x = some (.int k (a : Int))) (hy : ev n env y = some (.int k (b : Int))) :
    PS P ops n env L ⟨dst, .binOp .add t x y u, ty, pos, aft, g⟩ (.int k (((a + b) % 2 ^ k.bits : Nat) : Int)) :=
  PS.add hg hx hy (by rw [← Int.natCast_add]; exact wrap_mod h _)
end
end Go.Cx
/-! What a reading of an argument tells of the memory. No program in sight. -/
namespace Go.Cx
theorem rows_ints (k : IntKind) (l : List Int) : rows (fun z => [Value.int k z]) l = l.map (Value.int k) := by
  induction l with
  | nil => rfl
  | cons x l ih => simp only [rows, List.map_cons, List.flatten_cons] at ih ⊢; rw [ih]; rfl
theorem Ctr.law {P : Program} {f : FuncId} {args : List Value} {pre : PH → Prop} (C : Ctr P f args [] pre (fun v M => v = .bool true ∧ M = [])) {W : World} (hp : pre W.ph) :
    Calls P f args.toArray W fun e w' => e = .returned (.bool true) ∧ Go.RowKit.Below W.heap.size W w' :=
  (C W.ph W ⟨fun _ => true, by
    show Le W.ph _
    intro b o e; simp [PH.only, e], trivial⟩ hp).mono fun e w' h => by
      obtain ⟨v, H, ⟨rfl, rfl⟩, rfl, hs, he⟩ := h
      obtain ⟨S, a, _⟩ := hs
      exact ⟨rfl, below_of_exact (Le.trans a (only_le _ _)) he⟩
section
variable {H : Type} (enc : TypeId × Value → H) (P : Program) (w : World) (base : Nat) (spare : Nat → Bool) (held : Bool)
/-- Cells that may be read as of a type are those of something that is good. -/
def Rec {α : Type} (e : TypeId) (good : α → Prop) (f : α → List Value) : Prop :=
  ∀ n cs x, DataW.trod enc P w base spare held n e cs = some x → ∃ y, good y ∧ cs = f y
variable {enc P w base spare held}
theorem rec_int {t : TypeId} {k : IntKind} (ht : P.underlying t = some (.int k)) : Rec enc P w base spare held t (fun z : Int => (Lit.int k z).wf = true) (fun z => [.int k z]) := fun n cs x h => by
  obtain ⟨z, rfl, _, hw⟩ := DataW.trod_int ht h
  exact ⟨z, hw, rfl⟩
theorem wf_u8 {z : Int} (h : (Lit.int .u8 z).wf = true) : 0 ≤ z ∧ z < 256 := by
  simp [Lit.wf, IntKind.min, IntKind.max, IntKind.signed, IntKind.bits] at h; omega
theorem wf_i64 {z : Int} (h : (Lit.int .i64 z).wf = true) : -9223372036854775808 ≤ z ∧ z ≤ 9223372036854775807 := by
  simp [Lit.wf, IntKind.min, IntKind.max, IntKind.signed, IntKind.bits] at h; omega
theorem rec_u8 {t : TypeId} (ht : P.underlying t = some (.int .u8)) : Rec enc P w base spare held t (fun z : Nat => z < 256) (fun z => [.int .u8 (z : Int)]) := fun n cs x h => by
  obtain ⟨z, hw, rfl⟩ := rec_int ht n cs x h
  have := wf_u8 hw
  exact ⟨z.toNat, by omega, by congr 2; omega⟩
theorem trod_fields {t : TypeId} {fs : Array Field} {fuel : Nat} {cs : List Value} {x : DataW H × List MemPlace} (ht : P.underlying t = some (.struct fs)) (h : DataW.trod enc P w base spare held fuel t cs = some x) :
    cs.length = P.cellsOf t ∧ ∃ m, ∀ (i : Nat) (f : Field), fs[i]? = some f → ∃ y, DataW.trod enc P w base spare held m f.type ((cs.drop f.offset).take (P.cellsOf f.type)) = some y := by
  obtain ⟨xs, m, _, _, hl, hx, hf⟩ := DataW.trod_struct ht h
  refine ⟨hl, m, fun i f hi => ?_⟩
  have : i < xs.length := by rw [hx]; exact (Array.getElem?_eq_some_iff.1 hi).1
  exact ⟨xs[i], by rw [hf i f hi, List.getElem?_eq_getElem this]⟩
theorem drop_part (cs : List Value) (a k : Nat) {p : List Value} (h : (cs.drop a).take k = p) : cs.drop a = p ++ cs.drop (a + k) := by
  rw [← h, ← List.drop_drop]; exact (List.take_append_drop k _).symm
/-- A slice's elements. -/
theorem open_rows {t e : TypeId} {α : Type} {good : α → Prop} {f : α → List Value} {sz fuel : Nat} {cs : List Value} {x : DataW H × List MemPlace} (ht : P.underlying t = some (.slice e)) (hc : P.cellsOf e = sz) (hpos : 0 < sz)
    (hE : Rec enc P w base spare held e good f) (h : DataW.trod enc P w base spare held fuel t cs = some x) :
    ∃ (a : Option Addr) (l : List α) (cap : Nat), cs = [.slice a l.length cap] ∧ (∀ y ∈ l, good y ∧ (f y).length = sz) ∧ (a = none → l = [] ∧ cap = 0) ∧ l.length ≤ cap ∧ cap ≤ maxLen ∧ rdx a (l.length * sz) (rows f l) w.ph := by
  rcases Go.Deep.open_slice ht h with ⟨rfl, _⟩ | ⟨a, len, cap, m, n, D, Pl, rfl, hb, hl, hm, hmm, _, hx⟩
  · exact ⟨none, [], 0, rfl, by simp, fun _ => ⟨rfl, rfl⟩, Nat.le_refl _, Nat.zero_le _, .inl (by simp)⟩
  have hmle : len ≤ m := by rw [hmm]; split <;> omega
  have key : ∀ i, i < len → ∃ y, good y ∧ (f y).length = sz ∧ ∀ j, j < sz → w.cell? ((a.add (i * sz)).add j) = (f y)[j]? := fun i hi => by
    obtain ⟨cs', h1, h2⟩ := hx i (by omega)
    obtain ⟨y, gy, e⟩ := hE _ _ _ h2
    obtain ⟨_, h3, h4⟩ := World.cells?_some h1
    rw [hc] at h3 h4
    exact ⟨y, gy, by rw [← e]; exact h3, fun j hj => by rw [← e]; exact h4 j hj⟩
  have : ∀ k, k ≤ len → ∃ l : List α, l.length = k ∧ (∀ y ∈ l, good y ∧ (f y).length = sz) ∧ ∀ i (hi : i < l.length) j, j < sz → w.cell? ((a.add (i * sz)).add j) = (f l[i])[j]? := by
    intro k
    induction k with
    | zero => intro _; exact ⟨[], rfl, by simp, fun i hi => by simp at hi⟩
    | succ k ih =>
      intro hk
      obtain ⟨l, e1, e2, e3⟩ := ih (by omega)
      obtain ⟨y, gy, ly, cy⟩ := key k (by omega)
      refine ⟨l ++ [y], by simp [e1], fun z hz => ?_, fun i hi j hj => ?_⟩
      · simp only [List.mem_append, List.mem_singleton] at hz
        rcases hz with hz | rfl
        · exact e2 z hz
        · exact ⟨gy, ly⟩
      · simp only [List.length_append, List.length_singleton] at hi
        by_cases hik : i < l.length
        · rw [List.getElem_append_left hik]; exact e3 i hik j hj
        · obtain rfl : i = l.length := by omega
          simp only [List.getElem_append_right (Nat.le_refl _), Nat.sub_self, List.getElem_cons_zero]
          rw [e1]; exact cy j hj
  obtain ⟨l, e1, e2, e3⟩ := this len (Nat.le_refl _)
  refine ⟨some a, l, cap, by rw [e1], e2, (fun h => by cases h), by omega, hm, ?_⟩
  by_cases h0 : l.length = 0
  · exact .inl (by simp [h0])
  right
  obtain ⟨b, o, sp⟩ := a
  have hp : 0 < l.length := by omega
  have h00 := e3 0 hp 0 hpos
  have hlen0 : 0 < (f l[0]).length := by rw [(e2 _ (by simp)).2]; exact hpos
  rw [List.getElem?_eq_getElem hlen0] at h00
  have hsp := World.cell?_spot h00
  have hsp' : sp = none := by simpa [Addr.add] using hsp
  subst hsp'
  simp only [addr_add] at e3 h00
  have hobj : ∃ c ty fr, w.heap[b]? = some (.cells c ty fr) := by
    unfold World.cell? at h00
    split at h00
    · rename_i c ty fr hh; exact ⟨c, ty, fr, hh⟩
    · cases h00
  obtain ⟨c, ty, fr, hh⟩ := hobj
  refine ⟨b, o, c, ty, fr, rfl, hh, fun j u hj => ?_⟩
  have hjl : j < l.length * sz := by
    have := (List.getElem?_eq_some_iff.1 hj).1
    rw [length_rows f sz l fun y hy => (e2 y hy).2] at this; exact this
  have hdm : j = (j / sz) * sz + j % sz := by rw [Nat.mul_comm]; exact (Nat.div_add_mod j sz).symm
  have hd : j / sz < l.length := (Nat.div_lt_iff_lt_mul hpos).2 hjl
  have hr := rows_at f sz l (fun y hy => (e2 y hy).2) (j / sz) hd (j % sz) (Nat.mod_lt _ hpos)
  rw [← hdm] at hr
  rw [hr] at hj
  have := e3 (j / sz) hd (j % sz) (Nat.mod_lt _ hpos)
  rw [hj] at this
  unfold World.cell? at this
  simp only [hh] at this
  rw [show o + j / sz * sz + j % sz = o + j by omega] at this
  simpa using this
end
end Go.Cx
/-! Stepping: rows of bytes. No program in sight. -/
namespace Go.Cx
theorem one_all {vs : List Value} (h : vs.all (·.oneCell') = true) : ∀ u ∈ vs, u.oneCell' = true := fun u hu => List.all_eq_true.1 h u hu
theorem cb_at (B : Blk) (j : Nat) (hj : j < B.length) : (cb B)[j * 1]? = some (.int .u8 (B[j].toNat : Int)) := by rw [Nat.mul_one]; exact cb_get B j hj
theorem cb_set (B : Blk) (j : Nat) (hj : j < B.length) (c : UInt8) : setL (cb B) (j * 1) [.int .u8 (c.toNat : Int)] = cb (B.set j c) := by
  rw [Nat.mul_one, setL_one _ _ _ (by simpa using hj)]
  simp [cb, ib, List.map_set]
theorem cb_set0 (B : Blk) (j : Nat) (hj : j < B.length) (c : UInt8) : setL (cb B) (0 + j * 1) [.int .u8 (c.toNat : Int)] = cb (B.set j c) := by rw [Nat.zero_add]; exact cb_set B j hj c
theorem rdx_some {a : Option Addr} {len : Nat} {vs : List Value} {x : PH} (h : rdx a len vs x) (h0 : 0 < len) : ∃ g off, a = some ⟨g, off, none⟩ := by
  rcases h with h | ⟨g, off, cs, t, fr, rfl, _⟩
  · omega
  · exact ⟨g, off, rfl⟩
theorem CellAt.rd {L L' : List Assn} {x : PH} {g off len j : Nat} {B : Blk} (p : Pick (Cx.exact x) L L') (h : rdx (some ⟨g, off, none⟩) len (cb B) x) (hl : len = B.length) (hj : j < B.length) : CellAt L g (off + j * 1) (.int .u8 (B[j].toNat : Int)) := by
  rcases h with h | ⟨g', off', cs, t, fr, e, hx, hc⟩
  · omega
  · simp only [Option.some.injEq, Addr.mk.injEq, and_true] at e
    obtain ⟨rfl, rfl⟩ := e
    exact CellAt.exact p ⟨cs, t, fr, hx, hc _ _ (cb_at B j hj)⟩
theorem CellAt.ownB {L L' : List Assn} {e n cap g j : Nat} {B : Blk} (p : Pick (Cx.own e 1 (some ⟨g, 0, none⟩) n cap (cb B)) L L') (hj : j < B.length) : CellAt L g (j * 1) (.int .u8 (B[j].toNat : Int)) := CellAt.own p (cb_at B j hj)
theorem CellAt.bkB {L L' : List Assn} {b t j : Nat} {B : Blk} (p : Pick (bk b t (cb B)) L L') (hj : j < B.length) : CellAt L b (0 + j * 1) (.int .u8 (B[j].toNat : Int)) := CellAt.pick p (by rw [Nat.zero_add]; exact cb_at B j hj)
/-- A row of equal parts that can be read: a part of it. -/
theorem CellAt.row {α : Type} {f : α → List Value} {k : Nat} {l : List α} {L L' : List Assn} {x : PH} {g off n i j : Nat} {v : Value} (p : Pick (Cx.exact x) L L') (h : rdx (some ⟨g, off, none⟩) n (rows f l) x) (h0 : 0 < n) (hf : ∀ y ∈ l, (f y).length = k) (hi : i < l.length)
    (hv : (f l[i])[j]? = some v) : CellAt L g (off + i * k + j) v := by
  rcases h with h | ⟨g', off', cs, t, fr, e, hx, hc⟩
  · omega
  · simp only [Option.some.injEq, Addr.mk.injEq, and_true] at e
    obtain ⟨rfl, rfl⟩ := e
    have hj : j < k := by have := (List.getElem?_eq_some_iff.1 hv).1; rw [hf _ (by simp)] at this; exact this
    have := rows_at f k l hf i hi j hj
    refine CellAt.exact p ⟨cs, t, fr, hx, ?_⟩
    rw [Nat.add_assoc]; exact hc _ v (by rw [this]; exact hv)
theorem CellsAt.row {α : Type} {f : α → List Value} {k : Nat} {l : List α} {L L' : List Assn} {x : PH} {g off n i : Nat} (p : Pick (Cx.exact x) L L') (h : rdx (some ⟨g, off, none⟩) n (rows f l) x) (h0 : 0 < n) (hf : ∀ y ∈ l, (f y).length = k) (hi : i < l.length) : CellsAt L g (off + i * k) (f l[i]) := by
  rcases h with h | ⟨g', off', cs, t, fr, e, hx, hc⟩
  · omega
  · simp only [Option.some.injEq, Addr.mk.injEq, and_true] at e
    obtain ⟨rfl, rfl⟩ := e
    refine CellsAt.exact p ⟨cs, t, fr, hx, fun j v hj => ?_⟩
    have hjk : j < k := by have := (List.getElem?_eq_some_iff.1 hj).1; rw [hf _ (by simp)] at this; exact this
    have := rows_at f k l hf i hi j hjk
    rw [Nat.add_assoc]; exact hc _ v (by rw [this]; exact hj)
/-- A part of what can be read can be read. -/
theorem rdx_part {a : Option Addr} {len g off : Nat} {B : Blk} {x : PH} (ha : a = some ⟨g, off, none⟩) (h : rdx a len (cb B) x) (hl : len = B.length) (i m : Nat) (hm : i + m ≤ B.length) : rdx (some ⟨g, off + i, none⟩) m (cb ((B.drop i).take m)) x := by
  subst ha
  rcases h with h | ⟨g', off', cs, t, fr, e, hx, hc⟩
  · exact .inl (by omega)
  · simp only [Option.some.injEq, Addr.mk.injEq, and_true] at e
    obtain ⟨rfl, rfl⟩ := e
    refine .inr ⟨g, off + i, cs, t, fr, rfl, hx, fun j u hu => ?_⟩
    rw [← cb_take, ← cb_drop, List.getElem?_take, List.getElem?_drop] at hu
    split at hu
    · rw [Nat.add_assoc]; exact hc _ _ hu
    · cases hu
theorem RdS.rdx {L L' : List Assn} {x : PH} {a : Option Addr} {len : Nat} {B : Blk} (p : Pick (Cx.exact x) L L') (h : Cx.rdx a len (cb B) x) (hl : len = B.length) : RdS L a len (cb B) :=
  RdS.exact p (one_cb B) (by simp [hl]) h
theorem rdx_own {L L' : List Assn} {e n cap : Nat} {a : Option Addr} {B : Blk} (p : Pick (own e 1 a n cap (cb B)) L L') (hn : n = B.length) : ∀ y, Sep L y → rdx a n (cb B) y := by
  subst hn; exact rdx_RdS (RdS.own p (one_cb B) (by simp))
theorem rdx_bk {L L' : List Assn} {b t : Nat} {B : Blk} (p : Pick (bk b t (cb B)) L L') (o m : Nat) (hm : o + m ≤ B.length) : ∀ y, Sep L y → rdx (some ⟨b, o, none⟩) m (cb ((B.drop o).take m)) y :=
  rdx_RdS (RdS.pick p (by simp; omega) (one_cb _) (by rw [cb_drop, cb_take]))
theorem rdx_ex {L L' : List Assn} {x : PH} (p : Pick (Cx.exact x) L L') {a : Option Addr} {len : Nat} {vs : List Value} (h : rdx a len vs x) : ∀ y, Sep L y → rdx a len vs y := fun y hy => rdx_mono h (p.ok hy)
theorem own_fact {e sz m cap : Nat} {a : Option Addr} {xs : List Value} {L L' : List Assn} (p : Pick (own e sz a m cap xs) L L') (h0 : 0 < m) : ∀ h, Sep L h → m ≤ cap ∧ ∃ b, a = some ⟨b, 0, none⟩ := fun h hs => by
  refine ⟨(own_ok.1 (p.ok hs)).2.1, ?_⟩
  rcases own_some (p.ok hs) with ⟨_, h1, _⟩ | h1
  · omega
  · exact h1
theorem own_front {e n c : Nat} {a : Option Addr} {Z : Blk} {L : List Assn} {h : PH} (hn : n ≤ c) (hZ : Z.length = c) (s : Sep (own e 1 a c c (cb Z) :: L) h) : Sep (own e 1 a n c (cb (Z.take n)) :: L) h := by
  obtain ⟨S, o, r⟩ := s
  refine ⟨S, ?_, r⟩
  obtain ⟨h1, h2, h3, h4⟩ := own_ok.1 o
  refine own_ok.2 ⟨by simp; omega, hn, h3, ?_⟩
  rcases h4 with h4 | ⟨g, cur, e1, e2, e3, e4⟩
  · exact .inl h4
  · refine .inr ⟨g, cur, e1, e2, e3, ?_⟩
    rw [← cb_take, ← e4, List.take_take]
    congr 1; omega
theorem Ctr.conseq {P : Program} {f : FuncId} {args : List Value} {H : List Assn} {pre : PH → Prop} {post post' : Value → List Assn → Prop} (S : Ctr P f args H pre post)
    (hq : ∀ v M, post v M → ∃ M', post' v M' ∧ ∀ x h, Sep (M ++ [exact x]) h → Sep (M' ++ [exact x]) h) : Ctr P f args H pre post' := fun x w hs h =>
  (S x w hs h).mono fun e w' ⟨v, M, a, b, c, d⟩ => by
    obtain ⟨M', q1, q2⟩ := hq v M a
    exact ⟨v, M', q1, b, q2 x _ c, d⟩
section
variable {P : Program} {ops : Array Oper} {Q : Exit → Act → World → Prop} {n : Nat} {e0 : World} {env : Env} {L : List Assn} {rest : List Oper}
variable {dst : Option Tmp} {ty : TypeId} {pos : String} {aft : Array Edge} {g : Option (Nat × Bool)}
theorem CX.index0 {t e sz : Nat} [E : ElemA P t e sz] {x y : Operand} {b len cap : Nat} (j : Nat) {k : IntKind} {i : Int} (hl : j < len) (h : CX P ops Q n e0 (putE env dst (.pointer (some ⟨b, j * sz, none⟩))) L rest)
    (hg : gd ops n env g = some true := by rfl) (hx : ev n env x = some (.slice (some ⟨b, 0, none⟩) len cap) := by rfl) (hy : ev n env y = some (.int k i) := by rfl) (hi : i = (j : Int) := by first | rfl | omega) :
    CX P ops Q n e0 env L (⟨dst, .indexAddr t x y, ty, pos, aft, g⟩ :: rest) := CX.ps (PS.indexAddr hg hx hy hi hl) (by rw [Nat.zero_add]; exact h)
theorem CX.storeOB {t e : TypeId} [Z : SzT P t 1] {x y : Operand} {b k cap : Nat} {B : Blk} {M : List Assn} (j : Nat) (c : UInt8) (hj : j < B.length) (hk : k = B.length)
    (h : CX P ops Q n e0 (putE env dst undef) (own e 1 (some ⟨b, 0, none⟩) k cap (cb (B.set j c)) :: M) rest) (hg : gd ops n env g = some true := by rfl) (hx : ev n env x = some (.pointer (some ⟨b, j * 1, none⟩)) := by rfl)
    (hy : ev n env y = some (.int .u8 (c.toNat : Int)) := by rfl) (p : Pick (own e 1 (some ⟨b, 0, none⟩) k cap (cb B)) L M := by first | exact pickA | exact updA) : CX P ops Q n e0 env L (⟨dst, .store t x y, ty, pos, aft, g⟩ :: rest) := by
  refine CX.storeOwn (Z := Z) (v := .int .u8 (c.toNat : Int)) hg hx hy rfl (by intro u hu; simp [Value.cells] at hu; rw [hu]; rfl) p (by omega) ?_
  have e : setL (cb B) (j * 1) (Value.int .u8 (c.toNat : Int)).cells.toList = cb (B.set j c) := cb_set B j hj c
  rw [e]; exact h
theorem CX.storeBB {t bt : TypeId} [Z : SzT P t 1] {x y : Operand} {b : Nat} {B : Blk} {L' : List Assn} (j : Nat) (c : UInt8) (hj : j < B.length)
    (h : CX P ops Q n e0 (putE env dst undef) L' rest) (hg : gd ops n env g = some true := by rfl) (hx : ev n env x = some (.pointer (some ⟨b, 0 + j * 1, none⟩)) := by rfl)
    (hy : ev n env y = some (.int .u8 (c.toNat : Int)) := by rfl) (hu : Upd (bk b bt (cb B)) (bk b bt (cb (B.set j c))) L L' := by first | exact pickA | exact updA) : CX P ops Q n e0 env L (⟨dst, .store t x y, ty, pos, aft, g⟩ :: rest) := by
  refine CX.storeC (Z := Z) (v := .int .u8 (c.toNat : Int)) (cs := cb B) (bt := bt) hg hx hy rfl (by intro u hu; simp [Value.cells] at hu; rw [hu]; rfl) ?_ (by simp; omega) h
  have e : setL (cb B) (0 + j * 1) (Value.int .u8 (c.toNat : Int)).cells.toList = cb (B.set j c) := cb_set0 B j hj c
  rw [e]; exact hu
/-- A slice of a byte, and its append. -/
theorem CX.appB {t e by_ : Nat} {z : Value} [E : ElemA P t e 1] [Z : ZeroA P e z] [I : InfA P e 1 by_ z] {y x : Operand} {d1 : Tmp} {ty2 : TypeId} {pos2 : String} {aft2 : Array Edge} {g2 : Option (Nat × Bool)} {dst2 : Option Tmp} {a : Option Addr} {k cap : Nat} {B : Blk} {M : List Assn} (c : UInt8)
    (hk : (k + 1) * by_ ≤ 140737488355328) (hz : z.cells.size = 1) (h : ∀ bq a' cap', CX P ops Q n e0 (putE (putE env (some d1) (.slice (some ⟨bq, 0, none⟩) 1 1)) dst2 (.slice a' (k + 1) cap')) (own e 1 a' (k + 1) cap' (cb (B ++ [c])) :: M) rest)
    (hg : gd ops n env g = some true := by rfl) (hg2 : ∀ v, gd ops n (putE env (some d1) v) g2 = some true := by intro v; rfl) (hy : ev n env y = some (.int .u8 (c.toNat : Int)) := by rfl) (hx : ∀ v, ev n (putE env (some d1) v) x = some (.slice a k cap) := by intro v; rfl) (hd : ∀ v, ev n (putE env (some d1) v) (.tmp d1) = some v := by intro v; rfl)
    (p : Pick (own e 1 a k cap (cb B)) L M := by first | exact pickA | exact updA) :
    CX P ops Q n e0 env L (⟨some d1, .buildSlice t 1 #[(0, y)], ty, pos, aft, g⟩ :: ⟨dst2, .call ⟨.builtin .append, #[x, .tmp d1], #[t, t]⟩, ty2, pos2, aft2, g2⟩ :: rest) := by
  have hf : fillL (fun i => some (i * 1, 1)) ((Array.range (1 * 1)).map (z.cells[· % z.cells.size]!)).toList [(0, .int .u8 (c.toNat : Int))] = some [.int .u8 (c.toNat : Int)] := by
    simp [fillL, Value.cells, setL]
  refine CX.buildSl (parts := [(0, y)]) (vs := [(0, .int .u8 (c.toNat : Int))]) (out := [.int .u8 (c.toNat : Int)]) hg (by simp [evp, hy]) (by decide) hf fun bq => ?_
  refine CX.append (I := I) (m := 1) (news := [.int .u8 (c.toNat : Int)]) (hg2 _) (hx _) (hd _) (.tail p) (RdS.pick (.head _) rfl (by simp [Value.oneCell']) rfl) hk (fun hh => by cases hh) fun a' cap' => ?_
  have ea : cb B ++ [.int .u8 (c.toNat : Int)] = cb (B ++ [c]) := by simp [cb, ib]
  rw [ea]
  exact CX.mem (fun _ s => Sep.cons_mono (fun _ => Sep.tail) s) (h bq a' cap')
theorem CX.makeB {t e by_ : Nat} [E : ElemA P t e 1] [I : InfA P e 1 by_ (.int .u8 0)] {x y : Operand} {k k' : IntKind} {i : Int} (l : Nat) (hb : by_ * l ≤ 281474976710656) (h : ∀ b, CX P ops Q n e0 (putE env dst (.slice (some ⟨b, 0, none⟩) l l)) (own e 1 (some ⟨b, 0, none⟩) l l (cb (List.replicate l 0)) :: L) rest)
    (hg : gd ops n env g = some true := by rfl) (hx : ev n env x = some (.int k i) := by rfl) (hy : ev n env y = some (.int k' i) := by rfl) (hi : i = (l : Int) := by first | rfl | omega) : CX P ops Q n e0 env L (⟨dst, .makeSlice t x y, ty, pos, aft, g⟩ :: rest) := by
  refine CX.makeSl (I := I) (l := l) hg hx hy hi hb fun b => ?_
  have e : (madeCells (Value.int .u8 0).cells (l * 1)).toList = cb (List.replicate l 0) := by
    have := made_rep (.int .u8 0) 1 (l * 1) (by omega)
    rw [Nat.mul_one] at this ⊢
    simpa [Value.cells, cb, ib] using this
  rw [e]; exact h b
/-- Bytes behind an empty slice: new memory, of which all is known. -/
theorem CX.appendF {t e by_ : Nat} [E : ElemA P t e 1] [I : InfA P e 1 by_ (.int .u8 0)] {x y : Operand} {b0 m c : Nat} {b : Option Addr} {C : Blk} (hC : C.length = m) (h0 : 0 < m) (hb : m * by_ ≤ 140737488355328) (hr : RdS L b m (cb C))
    (h : ∀ q cap Z, m ≤ cap → Z.length = cap → Z.take m = C → CX P ops Q n e0 (putE env dst (.slice (some ⟨q, 0, none⟩) m cap)) (own e 1 (some ⟨q, 0, none⟩) cap cap (cb Z) :: L) rest)
    (hg : gd ops n env g = some true := by rfl) (hx : ev n env x = some (.slice (some ⟨b0, 0, none⟩) 0 0) := by rfl) (hy : ev n env y = some (.slice b m c) := by rfl) :
    CX P ops Q n e0 env L (⟨dst, .call ⟨.builtin .append, #[x, y], #[t, t]⟩, ty, pos, aft, g⟩ :: rest) := by
  refine CX.step hg fun w0 w hf hs he K hK => ?_
  obtain ⟨i, hi, hz, hsz, hby⟩ := info_parts I.inf
  obtain ⟨h1, hrd⟩ := hr
  obtain ⟨hl, hcell⟩ := hrd _ hs
  have hbp := I.bpos
  have hm63 : m ≤ m * by_ := Nat.le_mul_of_pos_right _ hbp
  rcases hcell with hc0 | ⟨q, off, cs, bt, fr, rfl, hq, hc⟩
  · omega
  have hrun := run_append_grow (P := P) w t ty e i (.int .u8 0) E.under hi hz ⟨b0, 0, none⟩ 0 0 [] (by simp) (by intro j v hj; simp at hj) ⟨q, off, none⟩ m c (cb C) (by rw [hsz, Nat.mul_one, length_cb, hC])
    (fun j v hj => by rw [addr_add]; exact cell_ph hq (hc j v hj)) (by omega) (by omega) (growslice_fits (by omega) (by rw [hby, Nat.zero_add]; exact hb))
  simp only [Nat.zero_add] at hrun
  have hge := grownCap_ge w m 0 e
  have hcm : grownCap w m 0 e ≤ maxLen := grownCap_le_maxLen w m 0 e (by unfold maxLen; omega)
  generalize grownCap w m 0 e = cap at hrun hge hcm
  have hr2 : (execOp w0.eval ⟨dst, .call ⟨.builtin .append, #[x, y], #[t, t]⟩, ty, pos, aft, g⟩).run P w = .ok (.value (.slice (some ⟨w.heap.size, 0, none⟩) m cap)) (w.drew.alloc (.cells ((cb (C ++ List.replicate (cap - m) 0)).toArray) e)) := by
    have ec : (([] : List Value).toArray ++ (cb C).toArray ++ Builtin.zeroCells (Value.int .u8 0).cells (cap - m)) = (cb (C ++ List.replicate (cap - m) 0)).toArray := by
      have ez : (Builtin.zeroCells (Value.int .u8 0).cells (cap - m)).toList = List.replicate (cap - m) (Value.int .u8 0) := by
        apply List.ext_getElem
        · simp [Builtin.zeroCells, Value.cells]
        · intro i h1 h2
          simp [Builtin.zeroCells, Value.cells, Nat.mod_one]
      apply Array.ext'
      simp [cb_append, ez]
      simp [cb, ib]
    rw [ec] at hrun
    simp [execOp, resolve, invoke, builtin, hf.eval hx, hf.eval hy, hrun]
  unfold Oper.wp
  rw [hr2]
  refine hK _ _ (h w.heap.size cap (C ++ List.replicate (cap - m) 0) hge (by simp; omega) (by rw [List.take_append_of_le_length (by omega), List.take_of_length_le (by omega)]) _ _ (hf.put dst _) ?_ (he.trans ⟨rfl, rfl, rfl⟩))
  rw [ph_alloc]
  refine Sep.push (ph_size w) (fun k hk => own_ok.2 ⟨by simp; omega, Nat.le_refl _, hcm, .inr ⟨_, _, rfl, hk, by simp; omega, by rw [Nat.mul_one]; exact List.take_of_length_le (by simp; omega)⟩⟩) hs
/-- A block that is a slice's own row. -/
theorem CX.ownBk {b e sz m : Nat} {cs : List Value} {M : List Assn} (p : Pick (bk b e cs) L M) (hl : cs.length = m * sz) (hm : m ≤ maxLen) (h : CX P ops Q n e0 env (own e sz (some ⟨b, 0, none⟩) m m cs :: M) rest) : CX P ops Q n e0 env L rest :=
  CX.mem (fun hp s => by
    obtain ⟨S, a, r⟩ := p.sep s
    exact ⟨S, own_ok.2 ⟨hl, Nat.le_refl _, hm, .inr ⟨b, cs.toArray, rfl, bk_ok.1 a, by simp [hl], by simp [hl, List.take_of_length_le]⟩⟩, r⟩) h
end
end Go.Cx
/-! Keys in order, tables, changes, batches: plain laws. No program in sight. -/
namespace Go.Cx
/-! ### Keys, in order -/
def klt (a b : Blk) : Bool := Op.bytesLess a b
theorem klt_nil (a : Blk) : klt a [] = false := by unfold klt; cases a <;> rfl
theorem klt_cons (x y : UInt8) (a b : Blk) : klt (x :: a) (y :: b) = (decide (x < y) || (x == y && klt a b)) := by rfl
theorem klt_irr (a : Blk) : klt a a = false := by
  induction a with
  | nil => rfl
  | cons x a ih => rw [klt_cons, ih]; simp [UInt8.lt_irrefl]
theorem klt_tr {a b c : Blk} (h : klt a b = true) (k : klt b c = true) : klt a c = true := by
  induction a generalizing b c with
  | nil =>
    cases c with
    | nil => rw [klt_nil] at k; cases k
    | cons z c => rfl
  | cons x a ih =>
    cases b with
    | nil => rw [klt_nil] at h; cases h
    | cons y b =>
      cases c with
      | nil => rw [klt_nil] at k; cases k
      | cons z c =>
        rw [klt_cons] at h k ⊢
        simp only [Bool.or_eq_true, decide_eq_true_eq, Bool.and_eq_true, beq_iff_eq] at h k ⊢
        rcases h with h | ⟨rfl, h⟩
        · rcases k with k | ⟨rfl, k⟩
          · exact .inl (UInt8.lt_trans h k)
          · exact .inl h
        · rcases k with k | ⟨rfl, k⟩
          · exact .inl k
          · exact .inr ⟨rfl, ih h k⟩
theorem klt_tri (a b : Blk) : klt a b = true ∨ a = b ∨ klt b a = true := by
  induction a generalizing b with
  | nil => cases b with
    | nil => exact .inr (.inl rfl)
    | cons y b => exact .inl rfl
  | cons x a ih =>
    cases b with
    | nil => exact .inr (.inr rfl)
    | cons y b =>
      simp only [klt_cons, Bool.or_eq_true, decide_eq_true_eq, Bool.and_eq_true, beq_iff_eq, List.cons.injEq]
      rcases Nat.lt_trichotomy x.toNat y.toNat with h | h | h
      · exact .inl (.inl h)
      · have e : x = y := UInt8.toNat_inj.1 h
        subst e
        rcases ih b with h | h | h
        · exact .inl (.inr ⟨rfl, h⟩)
        · exact .inr (.inl ⟨rfl, h⟩)
        · exact .inr (.inr (.inr ⟨rfl, h⟩))
      · exact .inr (.inr (.inl h))
theorem klt_asym {a b : Blk} (h : klt a b = true) : klt b a = false := by
  cases k : klt b a with
  | false => rfl
  | true => have := klt_tr h k; rw [klt_irr] at this; cases this
theorem klt_ne {a b : Blk} (h : klt a b = true) : a ≠ b := fun e => by subst e; rw [klt_irr] at h; cases h
/-! ### Tables -/
abbrev Tab := List (Blk × Blk)
def Rising (t : Tab) : Prop := t.Pairwise fun x y => klt x.1 y.1 = true
def val (t : Tab) (k : Blk) : Option Blk := (t.find? (·.1 == k)).map (·.2)
theorem val_nil (k : Blk) : val [] k = none := rfl
theorem val_cons (x : Blk × Blk) (t : Tab) (k : Blk) : val (x :: t) k = if x.1 = k then some x.2 else val t k := by
  unfold val
  rw [List.find?_cons]
  by_cases h : x.1 = k
  · simp [h]
  · simp [h, beq_eq_false_iff_ne.2 h]
theorem val_low {t : Tab} {k : Blk} (h : ∀ y ∈ t, klt k y.1 = true) : val t k = none := by
  induction t with
  | nil => rfl
  | cons x t ih =>
    rw [val_cons, if_neg (fun e => klt_ne (h x (by simp)) e.symm)]
    exact ih fun y hy => h y (by simp [hy])
theorem val_mem {t : Tab} (r : Rising t) {x : Blk × Blk} (h : x ∈ t) : val t x.1 = some x.2 := by
  induction t with
  | nil => cases h
  | cons y t ih =>
    rw [val_cons]
    rcases List.mem_cons.1 h with rfl | h
    · simp
    · rw [if_neg (klt_ne ((List.pairwise_cons.1 r).1 x h))]
      exact ih (List.pairwise_cons.1 r).2 h
theorem mem_val {t : Tab} {k v : Blk} (h : val t k = some v) : (k, v) ∈ t := by
  induction t with
  | nil => cases h
  | cons x t ih =>
    rw [val_cons] at h
    split at h
    · rename_i e; subst e; cases h; simp
    · simp [ih h]
/-- Two tables that tell the same are the same. -/
theorem val_ext {a b : Tab} (ra : Rising a) (rb : Rising b) (h : ∀ k, val a k = val b k) : a = b := by
  induction a generalizing b with
  | nil =>
    cases b with
    | nil => rfl
    | cons y b => have := h y.1; rw [val_nil, val_cons, if_pos rfl] at this; cases this
  | cons x a ih =>
    cases b with
    | nil => have := h x.1; rw [val_nil, val_cons, if_pos rfl] at this; cases this
    | cons y b =>
      have pa := List.pairwise_cons.1 ra
      have pb := List.pairwise_cons.1 rb
      have key : x.1 = y.1 := by
        rcases klt_tri x.1 y.1 with hl | he | hl
        · have h1 := h x.1
          rw [val_cons, if_pos rfl, val_cons, if_neg (klt_ne hl).symm, val_low (fun z hz => klt_tr hl (pb.1 z hz))] at h1
          cases h1
        · exact he
        · have h1 := h y.1
          rw [val_cons, val_cons, if_pos rfl, if_neg (klt_ne hl).symm, val_low (fun z hz => klt_tr hl (pa.1 z hz))] at h1
          cases h1
      have hv : x.2 = y.2 := by
        have h1 := h x.1
        rw [val_cons, if_pos rfl, val_cons, if_pos key.symm] at h1
        exact Option.some.inj h1
      have e : x = y := Prod.ext key hv
      subst e
      congr 1
      refine ih pa.2 pb.2 fun k => ?_
      have h1 := h k
      rw [val_cons, val_cons] at h1
      split at h1
      · rename_i e; subst e
        rw [val_low pa.1, val_low pb.1]
      · exact h1
/-! ### Changes -/
structure ChM where
  key : Blk
  val : Blk
  gone : Bool
def RisingC (l : List ChM) : Prop := l.Pairwise fun x y => klt x.key y.key = true
def chg (l : List ChM) (k : Blk) : Option ChM := l.find? (·.key == k)
theorem chg_cons (x : ChM) (l : List ChM) (k : Blk) : chg (x :: l) k = if x.key = k then some x else chg l k := by
  unfold chg
  rw [List.find?_cons]
  by_cases h : x.key = k
  · simp [h]
  · simp [h, beq_eq_false_iff_ne.2 h]
theorem chg_low {l : List ChM} {k : Blk} (h : ∀ y ∈ l, klt k y.key = true) : chg l k = none := by
  induction l with
  | nil => rfl
  | cons x t ih =>
    rw [chg_cons, if_neg (fun e => klt_ne (h x (by simp)) e.symm)]
    exact ih fun y hy => h y (by simp [hy])
/-- What changes leave of a key. -/
def chV (l : List ChM) (k : Blk) (o : Option Blk) : Option Blk := match chg l k with | some c => if c.gone then none else some c.val | none => o
theorem chV_cons (y : ChM) (l : List ChM) (k : Blk) (o : Option Blk) : chV (y :: l) k o = if y.key = k then (if y.gone then none else some y.val) else chV l k o := by
  unfold chV
  rw [chg_cons]
  by_cases h : y.key = k <;> simp [h]
theorem chV_low {l : List ChM} {k : Blk} (h : ∀ y ∈ l, klt k y.key = true) (o : Option Blk) : chV l k o = o := by
  unfold chV
  rw [chg_low h]
/-- A table behind changes. -/
def applyM : Tab → List ChM → Tab
  | [], [] => []
  | x :: t, [] => x :: t
  | [], y :: l => if y.gone then applyM [] l else (y.key, y.val) :: applyM [] l
  | x :: t, y :: l =>
    if klt x.1 y.key then x :: applyM t (y :: l)
    else if x.1 = y.key then (if y.gone then applyM t l else (y.key, y.val) :: applyM t l)
    else if y.gone then applyM (x :: t) l else (y.key, y.val) :: applyM (x :: t) l
termination_by t l => t.length + l.length
/-- What makes a table another one. -/
def betweenM : Tab → Tab → List ChM
  | [], [] => []
  | x :: a, [] => ⟨x.1, [], true⟩ :: betweenM a []
  | [], y :: b => ⟨y.1, y.2, false⟩ :: betweenM [] b
  | x :: a, y :: b =>
    if klt x.1 y.1 then ⟨x.1, [], true⟩ :: betweenM a (y :: b)
    else if x.1 = y.1 then (if x.2 = y.2 then betweenM a b else ⟨y.1, y.2, false⟩ :: betweenM a b)
    else ⟨y.1, y.2, false⟩ :: betweenM (x :: a) b
termination_by a b => a.length + b.length
theorem apply_low {k : Blk} : ∀ (t : Tab) (l : List ChM), (∀ y ∈ t, klt k y.1 = true) → (∀ y ∈ l, klt k y.key = true) → ∀ y ∈ applyM t l, klt k y.1 = true := by
  intro t l
  fun_induction applyM t l with
  | case1 => intro _ _ z hz; cases hz
  | case2 x t => intro h1 _; exact h1
  | case3 y l hg ih => intro h1 h2; exact ih h1 fun z hz => h2 z (by simp [hz])
  | case4 y l hg ih =>
    intro h1 h2 z hz
    rcases List.mem_cons.1 hz with rfl | hz
    · exact h2 y (by simp)
    · exact ih h1 (fun z hz => h2 z (by simp [hz])) z hz
  | case5 x t y l hlt ih =>
    intro h1 h2 z hz
    rcases List.mem_cons.1 hz with rfl | hz
    · exact h1 _ (by simp)
    · exact ih (fun z hz => h1 z (by simp [hz])) h2 z hz
  | case6 x t y l hlt he hg ih => intro h1 h2; exact ih (fun z hz => h1 z (by simp [hz])) fun z hz => h2 z (by simp [hz])
  | case7 x t y l hlt he hg ih =>
    intro h1 h2 z hz
    rcases List.mem_cons.1 hz with rfl | hz
    · exact h2 y (by simp)
    · exact ih (fun z hz => h1 z (by simp [hz])) (fun z hz => h2 z (by simp [hz])) z hz
  | case8 x t y l hlt he hg ih => intro h1 h2; exact ih h1 fun z hz => h2 z (by simp [hz])
  | case9 x t y l hlt he hg ih =>
    intro h1 h2 z hz
    rcases List.mem_cons.1 hz with rfl | hz
    · exact h2 y (by simp)
    · exact ih h1 (fun z hz => h2 z (by simp [hz])) z hz
theorem apply_rising : ∀ (t : Tab) (l : List ChM), Rising t → RisingC l → Rising (applyM t l) := by
  intro t l
  fun_induction applyM t l with
  | case1 => intro _ _; exact .nil
  | case2 x t => intro h _; exact h
  | case3 y l hg ih => intro h k; exact ih h (List.pairwise_cons.1 k).2
  | case4 y l hg ih =>
    intro h k
    have k' := List.pairwise_cons.1 k
    exact List.pairwise_cons.2 ⟨apply_low _ _ (by simp) k'.1, ih h k'.2⟩
  | case5 x t y l hlt ih =>
    intro h k
    have h' := List.pairwise_cons.1 h
    have k' := List.pairwise_cons.1 k
    refine List.pairwise_cons.2 ⟨apply_low _ _ h'.1 (fun z hz => ?_), ih h'.2 k⟩
    rcases List.mem_cons.1 hz with rfl | hz
    · exact hlt
    · exact klt_tr hlt (k'.1 z hz)
  | case6 x t y l hlt he hg ih => intro h k; exact ih (List.pairwise_cons.1 h).2 (List.pairwise_cons.1 k).2
  | case7 x t y l hlt he hg ih =>
    intro h k
    have h' := List.pairwise_cons.1 h
    have k' := List.pairwise_cons.1 k
    exact List.pairwise_cons.2 ⟨apply_low _ _ (by rw [← he]; exact h'.1) k'.1, ih h'.2 k'.2⟩
  | case8 x t y l hlt he hg ih => intro h k; exact ih h (List.pairwise_cons.1 k).2
  | case9 x t y l hlt he hg ih =>
    intro h k
    have h' := List.pairwise_cons.1 h
    have k' := List.pairwise_cons.1 k
    have hyx : klt y.key x.1 = true := by rcases klt_tri x.1 y.key with q | q | q <;> first | exact absurd q hlt | exact absurd q he | exact q
    refine List.pairwise_cons.2 ⟨apply_low _ _ (fun z hz => ?_) k'.1, ih h k'.2⟩
    rcases List.mem_cons.1 hz with rfl | hz
    · exact hyx
    · exact klt_tr hyx (h'.1 z hz)
theorem val_apply (k : Blk) : ∀ (t : Tab) (l : List ChM), Rising t → RisingC l → val (applyM t l) k = chV l k (val t k) := by
  intro t l
  fun_induction applyM t l with
  | case1 => intro _ _; rfl
  | case2 x t => intro _ _; rfl
  | case3 y l hg ih =>
    intro h q
    have q' := List.pairwise_cons.1 q
    rw [ih h q'.2, chV_cons]
    split
    · rename_i e; subst e; rw [chV_low q'.1]; simp [hg, val_nil]
    · rfl
  | case4 y l hg ih =>
    intro h q
    have q' := List.pairwise_cons.1 q
    rw [val_cons, ih h q'.2, chV_cons]
    split
    · simp [hg]
    · rfl
  | case5 x t y l hlt ih =>
    intro h q
    have h' := List.pairwise_cons.1 h
    have q' := List.pairwise_cons.1 q
    rw [val_cons, ih h'.2 q, val_cons]
    split
    · rename_i e; subst e
      rw [chV_low fun z hz => by
        rcases List.mem_cons.1 hz with rfl | hz
        · exact hlt
        · exact klt_tr hlt (q'.1 z hz)]
    · rfl
  | case6 x t y l hlt he hg ih =>
    intro h q
    have h' := List.pairwise_cons.1 h
    have q' := List.pairwise_cons.1 q
    rw [ih h'.2 q'.2, val_cons, chV_cons, he]
    split
    · rename_i e; subst e; rw [chV_low q'.1, ← he]; simp [hg, val_low h'.1]
    · rfl
  | case7 x t y l hlt he hg ih =>
    intro h q
    have h' := List.pairwise_cons.1 h
    have q' := List.pairwise_cons.1 q
    rw [val_cons, ih h'.2 q'.2, val_cons, chV_cons, he]
    split
    · simp [hg]
    · rfl
  | case8 x t y l hlt he hg ih =>
    intro h q
    have h' := List.pairwise_cons.1 h
    have q' := List.pairwise_cons.1 q
    have hyx : klt y.key x.1 = true := by rcases klt_tri x.1 y.key with q | q | q <;> first | exact absurd q hlt | exact absurd q he | exact q
    rw [ih h q'.2, chV_cons]
    split
    · rename_i e; subst e
      rw [chV_low q'.1]
      exact val_low fun z hz => by
        rcases List.mem_cons.1 hz with rfl | hz
        · exact hyx
        · exact klt_tr hyx (h'.1 z hz)
    · rfl
  | case9 x t y l hlt he hg ih =>
    intro h q
    have q' := List.pairwise_cons.1 q
    rw [val_cons, ih h q'.2, chV_cons]
    split
    · simp [hg]
    · rfl
theorem between_low {k : Blk} : ∀ (a b : Tab), (∀ y ∈ a, klt k y.1 = true) → (∀ y ∈ b, klt k y.1 = true) → ∀ y ∈ betweenM a b, klt k y.key = true := by
  intro a b
  fun_induction betweenM a b with
  | case1 => intro _ _ z hz; cases hz
  | case2 x a ih =>
    intro h1 h2 z hz
    rcases List.mem_cons.1 hz with rfl | hz
    · exact h1 x (by simp)
    · exact ih (fun z hz => h1 z (by simp [hz])) h2 z hz
  | case3 y b ih =>
    intro h1 h2 z hz
    rcases List.mem_cons.1 hz with rfl | hz
    · exact h2 y (by simp)
    · exact ih h1 (fun z hz => h2 z (by simp [hz])) z hz
  | case4 x a y b hlt ih =>
    intro h1 h2 z hz
    rcases List.mem_cons.1 hz with rfl | hz
    · exact h1 x (by simp)
    · exact ih (fun z hz => h1 z (by simp [hz])) h2 z hz
  | case5 x a y b hlt he hv ih => intro h1 h2; exact ih (fun z hz => h1 z (by simp [hz])) fun z hz => h2 z (by simp [hz])
  | case6 x a y b hlt he hv ih =>
    intro h1 h2 z hz
    rcases List.mem_cons.1 hz with rfl | hz
    · exact h2 y (by simp)
    · exact ih (fun z hz => h1 z (by simp [hz])) (fun z hz => h2 z (by simp [hz])) z hz
  | case7 x a y b hlt he ih =>
    intro h1 h2 z hz
    rcases List.mem_cons.1 hz with rfl | hz
    · exact h2 y (by simp)
    · exact ih h1 (fun z hz => h2 z (by simp [hz])) z hz
theorem between_rising : ∀ (a b : Tab), Rising a → Rising b → RisingC (betweenM a b) := by
  intro a b
  fun_induction betweenM a b with
  | case1 => intro _ _; exact .nil
  | case2 x a ih => intro h k; have h' := List.pairwise_cons.1 h; exact List.pairwise_cons.2 ⟨between_low _ _ h'.1 (by simp), ih h'.2 k⟩
  | case3 y b ih => intro h k; have k' := List.pairwise_cons.1 k; exact List.pairwise_cons.2 ⟨between_low _ _ (by simp) k'.1, ih h k'.2⟩
  | case4 x a y b hlt ih =>
    intro h k
    have h' := List.pairwise_cons.1 h
    have k' := List.pairwise_cons.1 k
    refine List.pairwise_cons.2 ⟨between_low _ _ h'.1 (fun z hz => ?_), ih h'.2 k⟩
    rcases List.mem_cons.1 hz with rfl | hz
    · exact hlt
    · exact klt_tr hlt (k'.1 z hz)
  | case5 x a y b hlt he hv ih => intro h k; exact ih (List.pairwise_cons.1 h).2 (List.pairwise_cons.1 k).2
  | case6 x a y b hlt he hv ih =>
    intro h k
    have h' := List.pairwise_cons.1 h
    have k' := List.pairwise_cons.1 k
    exact List.pairwise_cons.2 ⟨between_low _ _ (by rw [← he]; exact h'.1) k'.1, ih h'.2 k'.2⟩
  | case7 x a y b hlt he ih =>
    intro h k
    have h' := List.pairwise_cons.1 h
    have k' := List.pairwise_cons.1 k
    have hyx : klt y.1 x.1 = true := by rcases klt_tri x.1 y.1 with q | q | q <;> first | exact absurd q hlt | exact absurd q he | exact q
    refine List.pairwise_cons.2 ⟨between_low _ _ (fun z hz => ?_) k'.1, ih h k'.2⟩
    rcases List.mem_cons.1 hz with rfl | hz
    · exact hyx
    · exact klt_tr hyx (h'.1 z hz)
/-- What is between two tables makes the first one the second one. -/
theorem apply_between : ∀ (a b : Tab), Rising a → Rising b → applyM a (betweenM a b) = b := by
  intro a b ra rb
  refine val_ext (apply_rising _ _ ra (between_rising _ _ ra rb)) rb fun k => ?_
  rw [val_apply k _ _ ra (between_rising _ _ ra rb)]
  revert ra rb
  fun_induction betweenM a b with
  | case1 => intro _ _; rfl
  | case2 x a ih =>
    intro h q
    have h' := List.pairwise_cons.1 h
    have := ih h'.2 q
    rw [chV_cons, val_cons]
    by_cases e : x.1 = k
    · simp [e, val_nil]
    · simpa [e] using this
  | case3 y b ih =>
    intro h q
    have q' := List.pairwise_cons.1 q
    have := ih h q'.2
    rw [chV_cons, val_cons]
    by_cases e : y.1 = k
    · simp [e]
    · simpa [e] using this
  | case4 x a y b hlt ih =>
    intro h q
    have h' := List.pairwise_cons.1 h
    have q' := List.pairwise_cons.1 q
    have := ih h'.2 q
    rw [chV_cons]
    by_cases e : x.1 = k
    · subst e
      simp only [if_true]
      exact (val_low fun z hz => by
        rcases List.mem_cons.1 hz with rfl | hz
        · exact hlt
        · exact klt_tr hlt (q'.1 z hz)).symm
    · rw [val_cons x, if_neg e, if_neg e]; exact this
  | case5 x a y b hlt he hv ih =>
    intro h q
    have h' := List.pairwise_cons.1 h
    have q' := List.pairwise_cons.1 q
    have := ih h'.2 q'.2
    rw [val_cons, val_cons, he, hv]
    split
    · rename_i e; subst e
      rw [chV_low (between_low _ _ (by rw [← he]; exact h'.1) q'.1)]
    · exact this
  | case6 x a y b hlt he hv ih =>
    intro h q
    have h' := List.pairwise_cons.1 h
    have q' := List.pairwise_cons.1 q
    have := ih h'.2 q'.2
    rw [chV_cons, val_cons y]
    by_cases e : y.1 = k
    · simp [e]
    · rw [val_cons, he, if_neg e, if_neg e, if_neg e]; exact this
  | case7 x a y b hlt he ih =>
    intro h q
    have q' := List.pairwise_cons.1 q
    have := ih h q'.2
    rw [chV_cons, val_cons y]
    by_cases e : y.1 = k
    · simp [e]
    · simpa [e] using this
theorem apply_whole (b : Tab) (rb : Rising b) : applyM [] (betweenM [] b) = b := apply_between [] b .nil rb
end Go.Cx
namespace Go.Cx
/-! ### Batches -/
def rowB (b : Blk) : Blk := le 4 b.length ++ b
def chB (c : ChM) : Blk := rowB c.key ++ (if c.gone then [1] else 0 :: rowB c.val)
def putB (l : List ChM) : Blk := le 4 l.length ++ (l.map chB).flatten
structure ChM.ok (c : ChM) : Prop where
  k1 : 1 ≤ c.key.length
  k2 : c.key.length ≤ 16
  v : c.val.length ≤ 1048576
  g : c.gone = true → c.val = []
def MayC (l : List ChM) : Prop := RisingC l ∧ ∀ c ∈ l, c.ok
def rowAt (b : Blk) (at_ most : Nat) : Blk × Nat × Int :=
  if b.length < at_ then ([], 0, 2) else if b.length - at_ < 4 then ([], 0, 4)
  else if most < ofLe ((b.drop at_).take 4) then ([], 0, 3)
  else if b.length - (at_ + 4) < ofLe ((b.drop at_).take 4) then ([], 0, 4)
  else ((b.drop (at_ + 4)).take (ofLe ((b.drop at_).take 4)), at_ + 4 + ofLe ((b.drop at_).take 4), 0)
theorem rowAt_print {b r rest : Blk} {at_ most : Nat} (h0 : at_ ≤ b.length) (h : b.drop at_ = rowB r ++ rest) (hm : r.length ≤ most) (h4 : r.length < 4294967296) : rowAt b at_ most = (r, at_ + 4 + r.length, 0) := by
  have hl : b.length - at_ = 4 + r.length + rest.length := by
    have := congrArg List.length h
    simp [rowB] at this; omega
  have e : (b.drop at_).take 4 = le 4 r.length := by rw [h, rowB, List.append_assoc, List.take_append_of_le_length (by simp), List.take_of_length_le (by simp)]
  have e2 : b.drop (at_ + 4) = r ++ rest := by rw [← List.drop_drop, h, rowB, List.append_assoc, List.drop_append]; simp
  unfold rowAt
  rw [e, ofLe_le 4 _ h4, if_neg (by omega), if_neg (by omega), if_neg (by omega), if_neg (by omega), e2]
  simp
theorem rowAt_inv {b r : Blk} {at_ most nx : Nat} (h : rowAt b at_ most = (r, nx, 0)) : b.drop at_ = rowB r ++ b.drop nx ∧ nx = at_ + 4 + r.length ∧ nx ≤ b.length ∧ r.length ≤ most ∧ at_ ≤ b.length := by
  unfold rowAt at h
  split at h
  · simp at h
  split at h
  · simp at h
  split at h
  · simp at h
  split at h
  · simp at h
  rename_i h1 h2 h3 h4
  simp only [Prod.mk.injEq, and_true] at h
  obtain ⟨rfl, rfl⟩ := h
  have hl : ((b.drop (at_ + 4)).take (ofLe ((b.drop at_).take 4))).length = ofLe ((b.drop at_).take 4) := by simp; omega
  have f : le 4 (ofLe ((b.drop at_).take 4)) = (b.drop at_).take 4 := by
    have := le_ofLe ((b.drop at_).take 4)
    rwa [show ((b.drop at_).take 4).length = 4 by simp; omega] at this
  refine ⟨?_, by rw [hl], by omega, by rw [hl]; omega, by omega⟩
  rw [rowB, hl, f, List.append_assoc, ← List.drop_drop (i := ofLe _), List.take_append_drop, ← List.drop_drop, List.take_append_drop]
def oneB (b : Blk) (at_ : Nat) : ChM × Nat × Int :=
  if (rowAt b at_ 16).2.2 ≠ 0 then (⟨[], [], false⟩, 0, (rowAt b at_ 16).2.2)
  else if (rowAt b at_ 16).2.1 = b.length then (⟨[], [], false⟩, 0, 4)
  else match b.getD (rowAt b at_ 16).2.1 0 with
    | 1 => (⟨(rowAt b at_ 16).1, [], true⟩, (rowAt b at_ 16).2.1 + 1, 0)
    | 0 => (⟨(rowAt b at_ 16).1, (rowAt b ((rowAt b at_ 16).2.1 + 1) 1048576).1, false⟩, (rowAt b ((rowAt b at_ 16).2.1 + 1) 1048576).2)
    | _ => (⟨(rowAt b at_ 16).1, [], false⟩, 0, 5)
theorem chB_len (c : ChM) (h : c.ok) : (chB c).length = 4 + c.key.length + (if c.gone then 1 else 5 + c.val.length) := by
  unfold chB; split <;> simp [rowB] <;> omega
theorem one_print {b rest : Blk} {c : ChM} {at_ : Nat} (h0 : at_ ≤ b.length) (h : b.drop at_ = chB c ++ rest) (o : c.ok) : oneB b at_ = (c, at_ + (chB c).length, 0) := by
  have h1 := o.k2
  have h2 := o.v
  have hr : rowAt b at_ 16 = (c.key, at_ + 4 + c.key.length, 0) := rowAt_print h0 (by rw [h, chB, List.append_assoc]) h1 (by omega)
  have hl : b.length - at_ = (chB c).length + rest.length := by
    have := congrArg List.length h
    simp at this; omega
  have hc := chB_len c o
  have hd : b.drop (at_ + 4 + c.key.length) = (if c.gone then [1] else 0 :: rowB c.val) ++ rest := by
    rw [show at_ + 4 + c.key.length = at_ + (rowB c.key).length by simp [rowB]; omega, ← List.drop_drop, h, chB, List.append_assoc, List.drop_append]; simp
  unfold oneB
  rw [hr]
  dsimp only
  rw [if_neg (by simp), if_neg (by split at hc <;> omega)]
  have hg : b.getD (at_ + 4 + c.key.length) 0 = ((if c.gone then [1] else 0 :: rowB c.val) ++ rest).getD 0 0 := by
    rw [← hd]; simp [List.getD_eq_getElem?_getD]
  obtain ⟨key, v, gone⟩ := c
  dsimp only at *
  cases gone with
  | true =>
    have e : v = [] := o.g rfl
    
    simp only [if_true, List.cons_append, List.nil_append, List.getD_cons_zero] at hg hc
    rw [hg]
    subst e
    simp [hc]; omega
  | false =>
    simp only [if_false, Bool.false_eq_true, List.cons_append, List.getD_cons_zero] at hg hc hd
    rw [hg]
    have hd2 : b.drop (at_ + 4 + key.length + 1) = rowB v ++ rest := by rw [← List.drop_drop, hd]; rfl
    have hs := rowAt_print (b := b) (r := v) (rest := rest) (at_ := at_ + 4 + key.length + 1) (most := 1048576) (by omega) hd2 h2 (by omega)
    simp [hs, hc]; omega
theorem one_inv {b : Blk} {c : ChM} {at_ nx : Nat} (h : oneB b at_ = (c, nx, 0)) (hk : c.key ≠ []) : b.drop at_ = chB c ++ b.drop nx ∧ nx ≤ b.length ∧ c.ok ∧ at_ ≤ b.length ∧ at_ < nx := by
  unfold oneB at h
  split at h
  · rename_i hc; simp at h; omega
  rename_i hc
  split at h
  · simp at h
  rename_i hn
  rcases hr : rowAt b at_ 16 with ⟨r, nr, er⟩
  rw [hr] at h hc hn
  dsimp only at h hc hn
  obtain rfl : er = 0 := Decidable.byContradiction hc
  obtain ⟨q1, q2, q3, q4, q5⟩ := rowAt_inv hr
  have hd : b.drop nr = b.getD nr 0 :: b.drop (nr + 1) := by
    rw [List.drop_eq_getElem_cons (by omega)]; simp [List.getD_eq_getElem?_getD, show nr < b.length by omega]
  have hk1 : r ≠ [] → 1 ≤ r.length := fun e => by cases r with | nil => exact absurd rfl e | cons => simp
  split at h
  · rename_i e1
    simp only [Prod.mk.injEq, and_true] at h
    obtain ⟨rfl, rfl⟩ := h
    refine ⟨?_, by omega, ⟨hk1 hk, q4, by simp, by simp⟩, q5, by omega⟩
    rw [q1, hd, e1, chB]; simp
  · rename_i e1
    simp only [Prod.mk.injEq] at h
    obtain ⟨rfl, h⟩ := h
    rcases hs : rowAt b (nr + 1) 1048576 with ⟨s, ns, es⟩
    rw [hs] at h
    dsimp only at hk ⊢
    obtain ⟨rfl, rfl⟩ := Prod.mk.inj h
    obtain ⟨p1, p2, p3, p4, p5⟩ := rowAt_inv hs
    refine ⟨?_, p3, ⟨hk1 hk, q4, p4, by simp⟩, q5, by omega⟩
    rw [q1, hd, e1, p1, chB]; simp
  · simp at h
theorem rising_snoc {l : List ChM} {x : ChM} (h : RisingC l) (k : ∀ y, l.getLast? = some y → klt y.key x.key = true) : RisingC (l ++ [x]) := by
  unfold RisingC at *
  rw [List.pairwise_append]
  refine ⟨h, by simp, fun y hy z hz => ?_⟩
  obtain rfl : z = x := by simpa using hz
  rcases List.eq_nil_or_concat l with rfl | ⟨m, w, rfl⟩
  · cases hy
  · rw [List.concat_eq_append] at *
    have hw := k w (by simp)
    rcases List.mem_append.1 hy with hy | hy
    · exact klt_tr ((List.pairwise_append.1 h).2.2 y hy w (by simp)) hw
    · obtain rfl : y = w := by simpa using hy
      exact hw
/-- Does a change fit behind others? -/
def fits (l : List ChM) (x : ChM) : Bool := (match l.getLast? with | some y => klt y.key x.key | none => true) && !x.key.isEmpty
def loopB (b : Blk) : Nat → List ChM → Nat → List ChM × Int
  | 0, l, at_ => if at_ ≠ b.length then ([], 5) else (l, 0)
  | k + 1, l, at_ =>
    if (oneB b at_).2.2 ≠ 0 then ([], (oneB b at_).2.2)
    else if fits l (oneB b at_).1 = false then ([], 5)
    else loopB b k (l ++ [(oneB b at_).1]) (oneB b at_).2.1
def getB (b : Blk) : List ChM × Int := if b.length < 4 then ([], 4) else loopB b (ofLe (b.take 4)) [] 4
theorem fits_iff {l : List ChM} {x : ChM} : fits l x = true ↔ (∀ y, l.getLast? = some y → klt y.key x.key = true) ∧ x.key ≠ [] := by
  unfold fits
  cases h : l.getLast? <;> simp
theorem loop_print {b : Blk} : ∀ (m l : List ChM) (at_ : Nat), at_ ≤ b.length → b.drop at_ = (m.map chB).flatten → RisingC (l ++ m) → (∀ c ∈ m, c.ok) → loopB b m.length l at_ = (l ++ m, 0) := by
  intro m
  induction m with
  | nil =>
    intro l at_ h0 h _ _
    have : at_ = b.length := by
      have := congrArg List.length h
      simp at this; omega
    simp [loopB, this]
  | cons x m ih =>
    intro l at_ h0 h hr ho
    have o := ho x (by simp)
    have h1 : b.drop at_ = chB x ++ (m.map chB).flatten := by simpa using h
    have hp := one_print h0 h1 o
    have hl : b.length - at_ = (chB x).length + ((m.map chB).flatten).length := by
      have := congrArg List.length h1
      simp at this ⊢; omega
    have hf : fits l x = true := fits_iff.2 ⟨fun y hy => (List.pairwise_append.1 hr).2.2 y (List.mem_of_getLast? hy) x (by simp), fun e => by have := o.k1; rw [e] at this; simp at this⟩
    simp only [List.length_cons, loopB]
    rw [hp]
    dsimp only
    rw [if_neg (by simp), if_neg (by simp [hf]), ih (l ++ [x]) _ (by omega) (by rw [← List.drop_drop, h1, List.drop_append]; simp) (by simpa using hr) (fun c hc => ho c (by simp [hc]))]
    simp
theorem loop_inv {b : Blk} : ∀ (k : Nat) (l : List ChM) (at_ : Nat) (r : List ChM), loopB b k l at_ = (r, 0) → at_ ≤ b.length → RisingC l → (∀ c ∈ l, c.ok) → ∃ m, r = l ++ m ∧ m.length = k ∧ b.drop at_ = (m.map chB).flatten ∧ MayC r := by
  intro k
  induction k with
  | zero =>
    intro l at_ r h h0 hr ho
    simp only [loopB] at h
    split at h
    · simp at h
    rename_i hc
    simp only [Prod.mk.injEq, and_true] at h
    subst h
    exact ⟨[], by simp, rfl, by simp [show at_ = b.length by omega], hr, ho⟩
  | succ k ih =>
    intro l at_ r h h0 hr ho
    simp only [loopB] at h
    split at h
    · rename_i hc; simp at h; omega
    rename_i hc
    split at h
    · simp at h
    rename_i hf
    have hf' : fits l (oneB b at_).1 = true := by simpa using hf
    rcases hx : oneB b at_ with ⟨x, nx, e⟩
    rw [hx] at h hc hf'
    dsimp only at h hc hf'
    obtain rfl : e = 0 := Decidable.byContradiction hc
    have f := fits_iff.1 hf'
    obtain ⟨q1, q2, q3, q4, q5⟩ := one_inv hx f.2
    obtain ⟨m, rfl, h2, h3, h4⟩ := ih (l ++ [x]) nx r h q2 (rising_snoc hr f.1) (fun c hc => by
      rcases List.mem_append.1 hc with hc | hc
      · exact ho c hc
      · obtain rfl : c = x := by simpa using hc
        exact q3)
    exact ⟨x :: m, by simp, by simp [h2], by rw [q1, h3]; simp, by simpa using h4⟩
theorem get_putB {l : List ChM} (h : MayC l) (hl : l.length < 4294967296) : getB (putB l) = (l, 0) := by
  have e : (putB l).take 4 = le 4 l.length := by rw [putB, List.take_append_of_le_length (by simp), List.take_of_length_le (by simp)]
  unfold getB
  rw [if_neg (by simp [putB]), e, ofLe_le 4 _ hl]
  have := loop_print (b := putB l) l [] 4 (by simp [putB]) (by simp [putB]) (by simpa using h.1) h.2
  simpa using this
theorem put_getB {b : Blk} {l : List ChM} (h : getB b = (l, 0)) : MayC l ∧ putB l = b ∧ l.length < 4294967296 := by
  unfold getB at h
  split at h
  · simp at h
  rename_i h4
  obtain ⟨m, rfl, h2, h3, h5⟩ := loop_inv _ [] 4 l h (by omega) .nil (by simp)
  have f : le 4 (ofLe (b.take 4)) = b.take 4 := by
    have := le_ofLe (b.take 4)
    rwa [show (b.take 4).length = 4 by simp; omega] at this
  have hlt := ofLe_lt (b.take 4)
  rw [show (b.take 4).length = 4 by simp; omega] at hlt
  refine ⟨h5, ?_, by omega⟩
  rw [putB, h2, f, ← h3, List.take_append_drop]
end Go.Cx
/-! A range over a function: the loop's body is walked in a round, the iterator by its contract. No program in sight. -/
namespace Go.Cx
/-- Block b holds an object. -/
@[irreducible] def ob (b : Nat) (o : Obj) : Assn where
  ok h := h b = some o
  mono := fun _ _ l e => l _ _ e
theorem ob_ok {b : Nat} {o : Obj} {h : PH} : (ob b o).ok h ↔ h b = some o := by
  unfold ob; exact Iff.rfl
theorem ph_putObj {w : World} {b : Nat} {o : Obj} (h : b < w.heap.size) : (w.putObj b o).ph = w.ph.put b o := by
  funext c
  simp only [World.ph, World.putObj, PH.put]
  by_cases e : c = b
  · subst e; simp [h]
  · simp [e, Array.getElem?_setIfInBounds_ne (Ne.symm e)]
theorem ph_lt {w : World} {b : Nat} {o : Obj} (h : w.ph b = some o) : b < w.heap.size := by
  simp only [World.ph] at h; exact (Array.getElem?_eq_some_iff.1 h).1
theorem Sep.obj {L M : List Assn} {b : Nat} {o : Obj} {w : World} (p : Pick (ob b o) L M) (s : Sep L w.ph) (o' : Obj) : Sep (ob b o' :: M) (w.putObj b o').ph := by
  have hb := ob_ok.1 (p.ok s)
  rw [ph_putObj (ph_lt hb)]
  have u : Upd (ob b o) (ob b o') (ob b o :: M) (ob b o' :: M) := .head _
  exact Sep.upd u (fun k hk => by rw [ob_ok.1 hk]; rfl) (fun k _ _ => ob_ok.2 (by simp [PH.put])) (p.sep s)
theorem Sep.allocO {L : List Assn} {w : World} (s : Sep L w.ph) (o : Obj) : Sep (ob w.heap.size o :: L) (w.alloc o).ph := by
  rw [ph_alloc]; exact s.push (ph_size w) fun k e => ob_ok.2 e
theorem env_put (w : World) (b : Nat) (o : Obj) : Env0 w (w.putObj b o) := ⟨rfl, rfl, rfl⟩

theorem pick_mid (A : Assn) : ∀ (H L : List Assn), Pick A (H ++ A :: L) (H ++ L)
  | [], L => .head L
  | B :: H, L => .tail (pick_mid A H L)

def noDefer : Op → Bool
  | .defer _ => false
  | _ => true
theorem noDefer_ne {o : Op} (h : noDefer o = true) : ∀ c, o ≠ .defer c := fun c e => by subst e; cases h
/-- The fence that lets all in, of frames of a round, or not. -/
abbrev FW (ro : Option Nat) : Fence := { Fence.wide with round := ro }
theorem FW_depth (ro : Option Nat) : (FW ro).depth.isSome = true → 1 ≤ 0 := fun h => by cases h

section
variable {P : Program} {ops : Array Oper} {Q : Exit → Act → World → Prop}
theorem Oper.wp_wpIn {o : Oper} {a : Act} {w : World} {K : Act → World → Prop} (ro : Option Nat) (hd : noDefer o.op = true) (h : o.wp P a w K Q) : o.wpIn (FW ro) 0 P a w K Q := by
  refine ⟨fun _ _ => trivial, ?_⟩
  unfold Oper.wp at h
  rw [Oper.semAt_eq _ _ _ (noDefer_ne hd)]
  generalize (execOp a.eval o).run P w = r at *
  cases r with
  | ok x w' =>
    cases x <;> simp only [Oper.upon, Oper.uponIn] at h ⊢ <;> first
      | exact h
      | exact h.elim
      | exact ⟨FW_depth ro, callsIn_wide.2 h⟩
      | exact ⟨FW_depth ro, fun c cs _ => let ⟨v, w', r, s⟩ := h c cs; ⟨v, w', r, stepsIn_wide.2 s⟩⟩
  | halt x w' => cases x <;> simp only [Oper.upon, Oper.uponIn] at h ⊢ <;> exact h

theorem wpList_in (ro : Option Nat) (hQ : ∀ a w, ¬ Q .outgrown a w) : ∀ (l : List Oper) (a : Act) (w : World), l.all (fun o => noDefer o.op) = true → wpList P ops Q l a w → wpListIn (FW ro) 0 P ops Q l a w
  | [], _, _, _, h => h
  | o :: l, a, w, hd, h => by
    simp only [List.all_cons, Bool.and_eq_true] at hd
    unfold wpList at h
    unfold wpListIn
    split
    · rename_i hw
      rw [if_pos hw] at h
      rcases h with h | ⟨_, a0, w0, h⟩
      · exact Oper.wpIn_mono (fun a w => wpList_in ro hQ l a w hd.2) (Oper.wp_wpIn ro hd.1 h)
      · exact (hQ _ _ h).elim
    · rename_i hw
      rw [if_neg hw] at h
      exact ⟨fun _ _ => trivial, wpList_in ro hQ l _ w hd.2 h⟩

theorem wpOp_in (ro : Option Nat) (hQ : ∀ a w, ¬ Q .outgrown a w) (hd : ops.toList.all (fun o => noDefer o.op) = true) {i : Nat} {K : Act → World → Prop} {a : Act} {w : World} (h : wpOp P ops Q i K a w) : wpOpIn (FW ro) 0 P ops Q i K a w := by
  unfold wpOp at h
  unfold wpOpIn
  split
  · rename_i e; rw [e] at h; exact h
  · rename_i o e
    rw [e] at h
    simp only at h
    have hdo : noDefer o.op = true := by
      have := List.all_eq_true.1 hd o (by
        have := Array.mem_of_getElem? e
        simpa using this)
      exact this
    split
    · rename_i hw
      rw [if_pos hw] at h
      rcases h with h | ⟨_, a0, w0, h⟩
      · exact Oper.wp_wpIn ro hdo h
      · exact (hQ _ _ h).elim
    · rename_i hw
      rw [if_neg hw] at h
      exact ⟨fun _ _ => trivial, h⟩

theorem wpAny_in {md : Region.Mode} (ro : Option Nat) (hQ : ∀ a w, ¬ Q .outgrown a w) (hd : ops.toList.all (fun o => noDefer o.op) = true) : ∀ (fuel : Nat) (listed : Array Bool) (a : Act) (w : World), wpAny P md ops Q fuel listed a w → wpAnyIn (FW ro) 0 P md ops Q fuel listed a w
  | 0, _, _, _, h => h
  | fuel + 1, _, _, _, h => ⟨h.1, fun i hi => wpOpIn_mono (fun a w => wpAny_in ro hQ hd fuel _ a w) (wpOp_in ro hQ hd (h.2 i hi))⟩

/-- The same with deferred calls that stand by. -/
theorem eval_ds (a : Act) (ds : List Deferred) : Act.eval { a with defers := ds } = a.eval := funext fun x => by cases x <;> rfl
theorem put_ds (a : Act) (ds : List Deferred) (d : Option Tmp) (v : Value) : Act.put { a with defers := ds } d v = { a.put d v with defers := ds } := by cases d <;> rfl
end

/-! ### In a round -/
def CR (P : Program) (l : Nat) (c : Code) (Q : Exit → Act → World → Prop) (n : Nat) (e0 : World) (env : Env) (L : List Assn) : Prop :=
  ∀ a w, Fr n env a → Sep L w.ph → Env0 e0 w → c.wpIn (FW (some l)) 0 P Q a w
section
variable {P : Program} {ops : Array Oper} {Q : Exit → Act → World → Prop} {n l : Nat} {e0 : World} {env : Env} {L : List Assn} {rest : List Oper}
theorem CR.seq {x y : Code} (h : CR P l x (Exit.then (y.wpIn (FW (some l)) 0 P Q) Q) n e0 env L) : CR P l (.seq x y) Q n e0 env L := fun a w hf hs he => wpIn_seq (h a w hf hs he)
theorem CR.block {id : Nat} {c : Code} (h : CR P l c (Exit.inBlock id Q) n e0 env L) : CR P l (.block id c) Q n e0 env L := fun a w hf hs he => wpIn_block (h a w hf hs he)
theorem CR.skip (h : CQ (Q .normal) n e0 env L) : CR P l .skip Q n e0 env L := fun a w hf hs he => wpIn_skip (h a w hf hs he)
theorem CR.region {id : Nat} {os : List Oper} (h : CX P os.toArray Q n e0 env L os) (hd : os.all (fun o => noDefer o.op) = true := by rfl) (hQ : ∀ a w, ¬ Q .outgrown a w := by exact fun _ _ h => h) : CR P l (.region id os.toArray false) Q n e0 env L :=
  fun a w hf hs he => wpIn_region_lit (wpList_in (some l) hQ os a w hd (h a w hf hs he))
theorem CR.draw {id : Nat} {os : List Oper} (s : Order) (hm : P.follows .mixedOrders = true) (hl : os.length = s.length) (hB : ordB os.toArray (tails s) s (Array.replicate os.length false) = true)
    (hns : Region.noSelect os.toArray = true) (R : List Assn) (h : CH P os.toArray Q n e0 (tails s) R env L s) (hd : os.all (fun o => noDefer o.op) = true := by rfl) (hQ : ∀ a w, ¬ Q .outgrown a w := by exact fun _ _ h => h) : CR P l (.region id os.toArray true) Q n e0 env L := fun a w hf hs he => by
  refine Code.wpIn_mono NoPanic.imp (wpIn_region_any hm (wpAny_in (Q := NoPanic Q) (some l) (fun a w h => hQ a w h) hd _ _ _ _ (wpAny_of_T (S := fun w => Sep R w.ph) (T := tails s) _ _ _ _ ?_)))
  have := h hns (Array.replicate os.length false) hB a { w with drawn := w.drawn + 1 } hf hs (he.trans ⟨rfl, rfl, rfl⟩)
  simpa [hl] using this
theorem CR.condT {c : Operand} {x y : Code} (h : CR P l x Q n e0 env L) (hc : ev n env c = some (.bool true) := by rfl) : CR P l (.cond c x y) Q n e0 env L := fun a w hf hs he => wpIn_cond_true (hf.eval hc) (h a w hf hs he)
theorem CR.condF {c : Operand} {x y : Code} (h : CR P l y Q n e0 env L) (hc : ev n env c = some (.bool false) := by rfl) : CR P l (.cond c x y) Q n e0 env L := fun a w hf hs he => wpIn_cond_false (hf.eval hc) (h a w hf hs he)
theorem CR.condDT {c : Operand} {x y : Code} {p : Prop} {_ : Decidable p} (h : CR P l x Q n e0 env L) (hc : ev n env c = some (.bool (decide p)) := by rfl) (hp : p := by first | assumption | omega) : CR P l (.cond c x y) Q n e0 env L := CR.condT h (by rw [hc]; simp [hp])
theorem CR.condDF {c : Operand} {x y : Code} {p : Prop} {_ : Decidable p} (h : CR P l y Q n e0 env L) (hc : ev n env c = some (.bool (decide p)) := by rfl) (hp : ¬ p := by first | assumption | omega) : CR P l (.cond c x y) Q n e0 env L := CR.condF h (by rw [hc]; simp [hp])
theorem CR.weak {c : Code} {env' : Env} {L' M : List Assn} (hs : Sub env env') (hl : Sel L L' M) (h : CR P l c Q n e0 env' L') : CR P l c Q n e0 env L :=
  fun a w hf hsep he => h a w (hf.sub hs) (hl.sep hsep).left he
theorem CR.mem {c : Code} {L' : List Assn} (hl : ∀ h, Sep L h → Sep L' h) (h : CR P l c Q n e0 env L') : CR P l c Q n e0 env L :=
  fun a w hf hsep he => h a w hf (hl _ hsep) he
theorem CR.fact {c : Code} {p : Prop} (hp : ∀ h, Sep L h → p) (h : p → CR P l c Q n e0 env L) : CR P l c Q n e0 env L :=
  fun a w hf hs he => h (hp _ hs) a w hf hs he
theorem CQ.thenRN {y : Code} {Q' : Exit → Act → World → Prop} (h : CR P l y Q n e0 env L) : CQ (Exit.then (y.wpIn (FW (some l)) 0 P Q) Q' .normal) n e0 env L := h

/-- What is asked behind the assignments to a loop's left sides. -/
def Begin (P : Program) (l : Nat) (body : Code) (R : Ending → World → Prop) : Exit → Act → World → Prop :=
  Exit.then (fun a₁ w₁ => ∃ w₂, (Instr.beginRound l).run P w₁ = .ok () w₂ ∧ body.wpIn (FW (some l)) 0 P (roundPost P l R) a₁ w₂) (fun _ _ _ => False)
theorem CQ.begin {body : Code} {R : Ending → World → Prop} {r : Loop} {M : List Assn} (hr : r.state = .ready) (p : Pick (ob l (.loop r)) L M)
    (h : CR P l body (roundPost P l R) n e0 env (ob l (.loop { r with state := .busy }) :: M)) : CQ (Begin P l body R .normal) n e0 env L := fun a w hf hs he =>
  ⟨_, run_beginRound (ob_ok.1 (p.ok hs)) hr, h a _ hf (hs.obj p _) (he.trans (env_put _ _ _))⟩
theorem CQ.endRound {r : Loop} {L' M R : List Assn} {x : PH} {post : Value → List Assn → Prop} (p : Pick (ob l (.loop r)) L L') (hp : post (.bool true) M)
    (hl : Sel (ob l (.loop { r with state := .ready, pending := none }) :: L') (M ++ [exact x]) R) : CQ (roundPost P l (CtrR x e0 post) .normal) n e0 env L := fun a w hf hs he =>
  ⟨_, _, run_endRound none (ob_ok.1 (p.ok hs)), _, M, hp, rfl, (hl.sep (hs.obj p _)).left, he.trans (env_put _ _ _)⟩

/-! ### With the loop's mark among the deferred calls -/
def mark (D : Nat) : Deferred := { target := .collected D, args := #[] }
def QD (D : Nat) (K : Act → World → Prop) : Act → World → Prop := fun a w => K { a with defers := [mark D] } w
def CD (P : Program) (D : Nat) (c : Code) (Q : Exit → Act → World → Prop) (n : Nat) (e0 : World) (env : Env) (L : List Assn) : Prop :=
  ∀ a w, Fr n env a → Sep L w.ph → Env0 e0 w → c.wp P Q { a with defers := [mark D] } w
def CXD (P : Program) (D : Nat) (ops : Array Oper) (Q : Exit → Act → World → Prop) (n : Nat) (e0 : World) (env : Env) (L : List Assn) (rest : List Oper) : Prop :=
  ∀ a w, Fr n env a → Sep L w.ph → Env0 e0 w → wpList P ops Q rest { a with defers := [mark D] } w
variable {D : Nat}
theorem CD.seq {x y : Code} (h : CD P D x (Exit.then (y.wp P Q) Q) n e0 env L) : CD P D (.seq x y) Q n e0 env L := fun a w hf hs he => wp_seq (h a w hf hs he)
theorem CD.region {id : Nat} {os : List Oper} (h : CXD P D os.toArray Q n e0 env L os) : CD P D (.region id os.toArray false) Q n e0 env L := fun a w hf hs he => wp_region_lit (h a w hf hs he)
theorem CD.ret (h : CQ (QD D (Q .ret)) n e0 env L) : CD P D .ret Q n e0 env L := fun a w hf hs he => wp_ret (h a w hf hs he)
theorem QD.thenN {y : Code} {Q' : Exit → Act → World → Prop} (h : CD P D y Q n e0 env L) : CQ (QD D (Exit.then (y.wp P Q) Q' .normal)) n e0 env L := h
theorem QD.thenR {K : Act → World → Prop} (h : CQ (QD D (Q .ret)) n e0 env L) : CQ (QD D (Exit.then K Q .ret)) n e0 env L := h
theorem QD.blockN {id : Nat} (h : CQ (QD D (Q .normal)) n e0 env L) : CQ (QD D (Exit.inBlock id Q .normal)) n e0 env L := h
theorem CXD.nil (h : CQ (QD D (Q .normal)) n e0 env L) : CXD P D ops Q n e0 env L [] := fun a w hf hs he => h a w hf hs he
theorem CXD.ps {dst : Option Tmp} {ty : TypeId} {pos : String} {aft : Array Edge} {g : Option (Nat × Bool)} {op : Op} {v : Value} (h : CXD P D ops Q n e0 (putE env dst v) L rest)
    (hp : PS P ops n env L ⟨dst, op, ty, pos, aft, g⟩ v := by first | (apply PS.cmpT; (· rfl); (· rfl); (· first | assumption | omega | rfl | decide)) | (apply PS.cmpF; (· rfl); (· rfl); (· first | assumption | omega | rfl | decide)) | (apply PS.cmp <;> rfl) | (apply PS.notD <;> rfl) | (apply PS.auto <;> rfl) | (apply PS.fieldAddr <;> rfl) | (apply PS.load; (· rfl); (· rfl); (· apply CellAt.pick; (· first | exact pickA | exact updA); (· rfl))) | (apply PS.arith; (· rfl); (· rfl); (· simp only [inR]; omega)) | (apply PS.convR; (· rfl); (· rfl); (· simp only [inR]; omega)) | (apply PS.lenSl <;> rfl) | (apply PS.capSl <;> rfl) | (apply PS.maxI <;> rfl) | (apply PS.minI <;> rfl) | (apply PS.eqlPtrNil <;> rfl) | (apply PS.neqPtrNil <;> rfl) | (apply PS.eqlSlNil <;> rfl) | (apply PS.makeFunc <;> rfl) | (apply PS.fieldS <;> rfl)) : CXD P D ops Q n e0 env L (⟨dst, op, ty, pos, aft, g⟩ :: rest) := fun a w hf hs he => by
  have hw : Region.wanted (⟨dst, op, ty, pos, aft, g⟩ : Oper) (yielded ops a.tmps) = true := gd_wanted hf hp.1
  unfold wpList
  rw [show ({ a with defers := [mark D] } : Act).tmps = a.tmps from rfl, hw]
  refine .inl ?_
  unfold Oper.wp
  rw [eval_ds, hp.2 a w hf hs]
  show wpList P ops Q rest _ w
  rw [put_ds]
  exact h _ _ (hf.put dst v) hs he

variable {fn : Func} {x : PH} {post : Value → List Assn → Prop}
abbrev bodyM (P : Program) (fn : Func) (R : Ending → World → Prop) := bodyPostM Fence.wide 0 P fn R
theorem CQ.endM2 {M R : List Assn} {r s : ResultVar} {v u : Value} (hr : fn.results = #[r, s]) (h : RV P n env L r v) (k : RV P n env L s u) (hp : post (.tuple #[v, u]) M) (hl : Sel L (M ++ [exact x]) R) : CQ (bodyM P fn (CtrR x e0 post) .ret) n e0 env L :=
  fun a w hf hs he => by
    show LeavesInM _ _ _ _ _ _ _ _ _
    rw [hf.defers]
    exact ⟨_, fin2 hr h k hf hs, _, M, hp, rfl, (hl.sep hs).left, he⟩
theorem leaves_mark {R : Ending → World → Prop} {a : Act} {w w' : World} (hk : (Instr.takeDeferred D).run P w = .ok [] w') (h : ∃ v, (results fn a.tmps).run P w' = .ok v w' ∧ R (.returned v) w') :
    bodyM P fn R .ret { a with defers := [mark D] } w := by
  show LeavesInM _ _ _ _ _ _ _ _ _
  exact ⟨by simp, .inl ⟨D, w', rfl, hk, h⟩⟩
theorem CQ.endD1 {L' M R : List Assn} {r : ResultVar} {v : Value} (hr : fn.results = #[r]) (p : Pick (ob D (.deferred (some []))) L L') (h : RV P n env L' r v) (hp : post v M) (hl : Sel L' (M ++ [exact x]) R) : CQ (QD D (bodyM P fn (CtrR x e0 post) .ret)) n e0 env L :=
  fun a w hf hs he => by
    have hs' := (hs.obj p (.deferred none)).tail
    exact leaves_mark (run_takeDeferred (ob_ok.1 (p.ok hs))) ⟨_, fin1 hr h hf hs', _, M, hp, rfl, (hl.sep hs').left, he.trans (env_put _ _ _)⟩
theorem CQ.endD2 {L' M R : List Assn} {r s : ResultVar} {v u : Value} (hr : fn.results = #[r, s]) (p : Pick (ob D (.deferred (some []))) L L') (h : RV P n env L' r v) (k : RV P n env L' s u) (hp : post (.tuple #[v, u]) M) (hl : Sel L' (M ++ [exact x]) R) : CQ (QD D (bodyM P fn (CtrR x e0 post) .ret)) n e0 env L :=
  fun a w hf hs he => by
    have hs' := (hs.obj p (.deferred none)).tail
    exact leaves_mark (run_takeDeferred (ob_ok.1 (p.ok hs))) ⟨_, fin2 hr h k hf hs', _, M, hp, rfl, (hl.sep hs').left, he.trans (env_put _ _ _)⟩
end

theorem Ctr.introM {P : Program} {f : FuncId} {fn : Func} {c : Code} {args : List Value} {H : List Assn} {pre : PH → Prop} {post : Value → List Assn → Prop} {n : Nat}
    (hf : P.funcs[f]? = some fn) (hb : fn.body = some c) (hn : fn.ntmps = n) (hl : Nat.ble args.length n = true)
    (h : ∀ x w, pre x → CC P c (bodyM P fn (CtrR x w post)) n w (argE args 0) (H ++ [exact x])) : Ctr P f args H pre post := by
  intro x w hs hp
  have hl' := Nat.le_of_ble_eq_true hl
  refine (callsIn_wide (n := 0)).1 (callsIn_of_wp_marks hf hb trivial (wpIn_wide.2 (h x w hp _ w ⟨rfl, ?_, fun t v ht hlk => ?_⟩ hs (Env0.refl w))))
  · simp [hn]; omega
  · obtain ⟨j, e, hj⟩ := look_argE _ _ _ _ hlk
    have hjl : j < args.length := (List.getElem?_eq_some_iff.1 hj).1
    subst e
    simp only [Nat.zero_add, Array.getD_eq_getD_getElem?]
    rw [Array.getElem?_append_left (by simpa using hjl)]
    simp [hj]

/-! ### The iterator -/
/-- The iterator's contract: it hands out encs, one behind the other, whatever a round does with its own memory. -/
def Iter (P : Program) (f : FuncId) (caps : List Value) (H : List Assn) (Rd : PH → Prop) (encs : List (List Value)) : Prop :=
  ∀ (l : Nat) (x : PH) (I : Nat → List Assn → Prop), Rd x →
    (∀ k v M y w, encs[k]? = some v → I k M → Le x y → Sep (M ++ [exact y]) w.ph → YieldAt Fence.wide 0 P l v.toArray w (CtrR y w (fun u M' => u = .bool true ∧ I (k + 1) M'))) →
    ∀ M0 w, I 0 M0 → Sep ((H ++ M0) ++ [exact x]) w.ph → Calls P f (.func (.yield l) #[] #[] :: caps).toArray w (CtrR x w (fun v M => v = .tuple #[] ∧ I encs.length M))

/-- A region in which yield is called. -/
def CXI (P : Program) (ops : Array Oper) (Q : Exit → Act → World → Prop) (n : Nat) (e0 : World) (env : Env) (L : List Assn) (rest : List Oper) : Prop :=
  ∀ a w, Fr n env a → Sep L w.ph → Env0 e0 w → wpListIn Fence.wide 0 P ops Q rest a w
section
variable {P : Program} {ops : Array Oper} {Q : Exit → Act → World → Prop} {n l : Nat} {e0 : World} {env : Env} {L : List Assn} {rest : List Oper}
variable {dst : Option Tmp} {ty : TypeId} {pos : String} {aft : Array Edge} {g : Option (Nat × Bool)} {op : Op}
theorem CC.regionI {id : Nat} {os : List Oper} (h : CXI P os.toArray Q n e0 env L os) : CC P (.region id os.toArray false) Q n e0 env L := fun a w hf hs he => (wpIn_wide (n := 0)).1 (wpIn_region_lit (h a w hf hs he))
theorem CXI.nil (h : CQ (Q .normal) n e0 env L) : CXI P ops Q n e0 env L [] := fun a w hf hs he => h a w hf hs he
theorem CXI.step (hg : gd ops n env g = some true)
    (h : ∀ a w, Fr n env a → Sep L w.ph → Env0 e0 w → (⟨dst, op, ty, pos, aft, g⟩ : Oper).wpIn Fence.wide 0 P a w (wpListIn Fence.wide 0 P ops Q rest) Q) : CXI P ops Q n e0 env L (⟨dst, op, ty, pos, aft, g⟩ :: rest) := by
  intro a w hf hs he
  have hw : Region.wanted (⟨dst, op, ty, pos, aft, g⟩ : Oper) (yielded ops a.tmps) = true := gd_wanted hf hg
  unfold wpListIn
  rw [hw]
  exact h a w hf hs he
theorem CXI.ps {v : Value} (h : CXI P ops Q n e0 (putE env dst v) L rest) (hp : PS P ops n env L ⟨dst, op, ty, pos, aft, g⟩ v := by first | (apply PS.cmpT; (· rfl); (· rfl); (· first | assumption | omega | rfl | decide)) | (apply PS.cmpF; (· rfl); (· rfl); (· first | assumption | omega | rfl | decide)) | (apply PS.cmp <;> rfl) | (apply PS.notD <;> rfl) | (apply PS.auto <;> rfl) | (apply PS.fieldAddr <;> rfl) | (apply PS.load; (· rfl); (· rfl); (· apply CellAt.pick; (· first | exact pickA | exact updA); (· rfl))) | (apply PS.arith; (· rfl); (· rfl); (· simp only [inR]; omega)) | (apply PS.convR; (· rfl); (· rfl); (· simp only [inR]; omega)) | (apply PS.lenSl <;> rfl) | (apply PS.capSl <;> rfl) | (apply PS.maxI <;> rfl) | (apply PS.minI <;> rfl) | (apply PS.eqlPtrNil <;> rfl) | (apply PS.neqPtrNil <;> rfl) | (apply PS.eqlSlNil <;> rfl) | (apply PS.makeFunc <;> rfl) | (apply PS.fieldS <;> rfl)) : CXI P ops Q n e0 env L (⟨dst, op, ty, pos, aft, g⟩ :: rest) :=
  CXI.step hp.1 fun a w hf hs he => by
    refine ⟨fun _ _ => trivial, ?_⟩
    rw [show Fence.wide.round = none from rfl, Oper.semAt_none, hp.2 a w hf hs]
    exact h _ _ (hf.put dst v) hs he
theorem CXI.yield {y : Operand} {xs : List Operand} {tys : Array TypeId} {vs : List Value} {x : PH} {I : Nat → List Assn → Prop} {encs : List (List Value)} {k : Nat} {M L' N : List Assn}
    (hY : ∀ k v M y w, encs[k]? = some v → I k M → Le x y → Sep (M ++ [exact y]) w.ph → YieldAt Fence.wide 0 P l v.toArray w (CtrR y w (fun u M' => u = .bool true ∧ I (k + 1) M')))
    (hk : encs[k]? = some vs) (hI : I k M) (hsel : Sel L M L') (p : Pick (exact x) L' N)
    (h : ∀ M', I (k + 1) M' → CXI P ops Q n e0 (putE env dst (.bool true)) (M' ++ L') rest) (hg : gd ops n env g = some true := by rfl)
    (hy : ev n env y = some (.func (.yield l) #[] #[]) := by rfl) (hx : evs n env xs = some vs := by rfl) :
    CXI P ops Q n e0 env L (⟨dst, .call ⟨.value y, xs.toArray, tys⟩, ty, pos, aft, g⟩ :: rest) :=
  CXI.step hg fun a w hf hs he => by
    obtain ⟨z, hz, hl⟩ := (hsel.sep hs).rest
    obtain ⟨fn, tmps, assign, body, hrun, hR⟩ := hY k vs M z w hk hI (p.ok hl) hz
    refine ⟨fun _ _ => trivial, ?_⟩
    have hm := hf.evals hx
    have hv := hf.eval hy
    have e : (execOp a.eval ⟨dst, .call ⟨.value y, xs.toArray, tys⟩, ty, pos, aft, g⟩).run P w = .ok (.round l fn tmps assign body) w := by
      rw [← hrun, ← hm]
      simp [execOp, resolve, hv, Deferred.ofValue, invoke]
    rw [show Fence.wide.round = none from rfl, Oper.semAt_none, e]
    refine ⟨FW_depth none, hR.mono ?_⟩
    rintro e w' ⟨v, M', ⟨rfl, hI'⟩, rfl, hs', he'⟩
    exact h M' hI' _ _ (hf.put dst _) (hs'.unrest hl) (he.trans he')

/-! ### The statement -/
def putEs : Env → List Tmp → List Value → Env
  | env, t :: ts, v :: vs => putEs ((t, v) :: env) ts vs
  | env, _, _ => env
theorem Fr.puts : ∀ {ts : List Tmp} {vs : List Value} {env : Env} {tmps : Array Value}, Fr n env { tmps := tmps, defers := [] } →
    Fr n (putEs env ts vs) { tmps := (ts.zip vs).foldl (fun tmps (t, a) => tmps.setIfInBounds t a) tmps, defers := [] }
  | [], _, _, _, h => by cases ‹List Value› <;> exact h
  | t :: ts, [], _, _, h => h
  | t :: ts, v :: vs, env, tmps, h => by
    have := h.put (some t) v
    exact Fr.puts (ts := ts) (vs := vs) this
theorem yield_at {r : Loop} {ps : List Tmp} {vs : List Value} {w : World} {R : Ending → World → Prop} (hr : (ob l (.loop r)).ok w.ph) (hps : r.params = ps.toArray) (hl : vs.length = ps.length) (hf : Fr n env { tmps := r.tmps, defers := [] })
    (hs : Sep L w.ph) (h : CR P l r.assign (Begin P l r.body R) n w (putEs env ps vs) L) : YieldAt Fence.wide 0 P l vs.toArray w R := by
  refine ⟨_, _, _, _, run_yield (ob_ok.1 hr) (by simp [hps, hl]), roundIn_of_wpIn trivial ?_⟩
  have e : (r.params.zip vs.toArray).foldl (fun tmps (t, a) => tmps.setIfInBounds t a) r.tmps = (ps.zip vs).foldl (fun tmps (t, a) => tmps.setIfInBounds t a) r.tmps := by
    rw [hps]; simp
  have := h _ w (hf.puts (ts := ps) (vs := vs)) hs (Env0.refl w)
  rw [← e] at this
  exact this

theorem CC.range {gop : Operand} {ps : List Tmp} {assign body : Code} {f : FuncId} [F : HasFn P f] {caps : List Value} {H M0 L' : List Assn} {Rd : PH → Prop} {encs : List (List Value)}
    (It : Iter P f caps H Rd encs) (hg : ev n env gop = some (.func (.func f) #[] caps.toArray)) (I : Nat → List Assn → Prop) (h0 : I 0 M0) (hsel : Sel L (H ++ M0) L') (hRd : ∀ y, Sep L' y → Rd y) (hlen : ∀ v ∈ encs, v.length = ps.length)
    (hb : ∀ l r k v M x e1, encs[k]? = some v → I k M → r.state = .ready → r.pending = none → Sep L' x →
      CR P l assign (Begin P l body (CtrR x e1 (fun u M' => u = .bool true ∧ ∃ M1, M' = ob l (.loop r) :: M1 ∧ I (k + 1) M1))) n e1 (putEs env ps v) (ob l (.loop r) :: (M ++ [exact x])))
    (h : ∀ D M, I encs.length M → CQ (QD D (Q .normal)) n e0 env (ob D (.deferred (some [])) :: (M ++ L'))) : CC P (.rangeFunc gop ps.toArray assign body) Q n e0 env L := by
  intro a w hf hs he
  refine (wpIn_wide (n := 0)).1 (wpIn_rangeFunc fun fn _ => ?_)
  let D := w.heap.size
  let r : Loop := { state := .ready, pending := none, fn, tmps := a.tmps, params := ps.toArray, assign, body, defers := D }
  let w1 := (w.alloc (.deferred (some []))).alloc (.loop r)
  have hgv := hf.eval hg
  refine ⟨D + 1, [mark D], w1, ⟨.fn (.func f) caps.toArray, #[.func (.yield (D + 1)) #[] #[]]⟩, w1, f, (.func (.yield (D + 1)) #[] #[] :: caps).toArray, w1, run_enterLoop_outer fn a.tmps ps.toArray assign body, ?_, fun _ _ => trivial, ?_, FW_depth none, ?_⟩
  · simp [rangeCall, resolve, hgv, Deferred.ofValue, eval_const]
  · simp [invoke, F.call]
  · have s1 : Sep (ob (D + 1) (.loop r) :: ob D (.deferred (some [])) :: ((H ++ M0) ++ L')) w1.ph := by
      have := (Sep.allocO (Sep.allocO (hsel.sep hs) (.deferred (some []))) (.loop r))
      simpa using this
    have s2 : Sep ((H ++ (ob (D + 1) (.loop r) :: M0)) ++ (ob D (.deferred (some [])) :: L')) w1.ph := by
      have q1 := Sep.cons_mono (fun _ => (pick_mid (ob D (.deferred (some []))) (H ++ M0) L').back) s1
      rw [List.append_assoc] at q1
      have q2 := (pick_mid (ob (D + 1) (.loop r)) H (M0 ++ (ob D (.deferred (some [])) :: L'))).back q1
      rw [List.append_assoc]; exact q2
    obtain ⟨x, hx, hxl⟩ := s2.rest
    have hrd : Rd x := hRd x hxl.tail
    refine callsIn_wide.2 ((It (D + 1) x (fun k M => ∃ M1, M = ob (D + 1) (.loop r) :: M1 ∧ I k M1) hrd ?_ _ w1 ⟨M0, rfl, h0⟩ hx).mono ?_)
    · rintro k v _ y w2 hk ⟨M1, rfl, hI⟩ hle hs2
      have hy : Sep L' y := hxl.tail.mono hle
      exact yield_at (L := ob (D + 1) (.loop r) :: (M1 ++ [exact y])) hs2.head rfl (hlen v (List.mem_of_getElem? hk)) (by have := hf; exact ⟨rfl, this.size, this.get⟩) hs2 (hb (D + 1) r k v M1 y w2 hk hI rfl rfl hy)
    · rintro e w3 ⟨v, _, ⟨rfl, M1, rfl, hI⟩, rfl, hs3, he3⟩
      have hl3 := ob_ok.1 (hs3.head)
      refine ⟨none, _, run_endLoop hl3 (by simp [r]), ?_⟩
      have hs4 := (Sep.obj (Pick.head _) hs3 (.loop { r with state := .exhausted })).tail
      have hs5 := hs4.unrest hxl
      have hs6 : Sep (ob D (.deferred (some [])) :: (M1 ++ L')) (w3.putObj (D + 1) (.loop { r with state := .exhausted })).ph := by
        exact (pick_mid _ M1 L').sep hs5
      have := h D M1 hI a _ hf hs6 ((Env0.trans he (show Env0 w w1 from ⟨rfl, rfl, rfl⟩)).trans (he3.trans (env_put _ _ _)))
      rw [show [mark D] ++ a.defers = [mark D] by rw [hf.defers]; rfl]
      exact this
end
theorem wqk {p q : Prop} (h : q) (k : Hd q → p := by intro h; (repeat (first | refine CX.psA ?_ | refine CX.nil ?_ | refine CQ.thenRN ?_ | refine CQ.blockN ?_ | refine CQ.blockX ?_ | refine CR.seq ?_ | refine CR.block ?_ | refine CR.region ?_ | refine CR.skip ?_ | refine CR.condT ?_ | refine CR.condF ?_ | refine CR.condDT ?_ | refine CR.condDF ?_ | refine CX.storeA ?_ | refine CX.skipA ?_)); exact h.g) : p := k ⟨h⟩
theorem wdk {p q : Prop} (h : q) (k : Hd q → p := by intro h; (repeat (first | refine CXD.ps ?_ | refine CXD.nil ?_ | refine QD.thenN ?_ | refine QD.thenR ?_ | refine QD.blockN ?_ | refine CD.seq ?_ | refine CD.region ?_ | refine CD.ret ?_)); exact h.g) : p := k ⟨h⟩
end Go.Cx
/-! What a reading tells of bytes, and of rows of bytes. No program in sight. -/
namespace Go.Cx
def byteC (z : UInt8) : List Value := [.int .u8 (z.toNat : Int)]
theorem rows_bytes (l : Blk) : rows byteC l = cb l := by
  induction l with
  | nil => rfl
  | cons x l ih => simp only [rows, List.map_cons, List.flatten_cons] at ih ⊢; rw [ih]; rfl
/-- A slice of bytes that is handed in. -/
structure SlB where
  a : Option Addr
  b : Blk
  c : Nat
def SlB.cells (s : SlB) : List Value := [.slice s.a s.b.length s.c]
structure SlB.ok (x : PH) (s : SlB) : Prop where
  nil : s.a = none → s.b = [] ∧ s.c = 0
  le : s.b.length ≤ s.c
  max : s.c ≤ maxLen
  r : rdx s.a s.b.length (cb s.b) x
structure SlI where
  a : Option Addr
  l : List Int
  c : Nat
def SlI.cells (s : SlI) : List Value := [.slice s.a s.l.length s.c]
structure SlI.ok (x : PH) (s : SlI) : Prop where
  le : s.l.length ≤ s.c
  max : s.c ≤ maxLen
  rng : ∀ z ∈ s.l, -9223372036854775808 ≤ z ∧ z ≤ 9223372036854775807
  r : rdx s.a s.l.length (s.l.map (Value.int .i64)) x
section
variable {H : Type} {enc : TypeId × Value → H} {P : Program} {w : World} {base : Nat} {spare : Nat → Bool} {held : Bool}
theorem rec_byte {t : TypeId} (ht : P.underlying t = some (.int .u8)) : Rec enc P w base spare held t (fun _ : UInt8 => True) byteC := fun n cs x h => by
  obtain ⟨z, hw, rfl⟩ := rec_u8 ht n cs x h
  refine ⟨UInt8.ofNat z, trivial, ?_⟩
  simp [byteC]; omega
theorem rec_bytes {t e : TypeId} (ht : P.underlying t = some (.slice e)) (he : P.underlying e = some (.int .u8)) (hc : P.cellsOf e = 1) : Rec enc P w base spare held t (SlB.ok w.ph) SlB.cells := fun n cs x h => by
  obtain ⟨a, l, cap, rfl, hg, hn, h1, h2, r⟩ := open_rows ht hc (by decide) (rec_byte he) h
  exact ⟨⟨a, l, cap⟩, ⟨hn, h1, h2, by simpa [rows_bytes] using r⟩, rfl⟩
theorem rec_ints {t e : TypeId} (ht : P.underlying t = some (.slice e)) (he : P.underlying e = some (.int .i64)) (hc : P.cellsOf e = 1) : Rec enc P w base spare held t (SlI.ok w.ph) SlI.cells := fun n cs x h => by
  obtain ⟨a, l, cap, rfl, hg, hn, h1, h2, r⟩ := open_rows ht hc (by decide) (rec_int he) h
  exact ⟨⟨a, l, cap⟩, ⟨h1, h2, fun z hz => wf_i64 (hg z hz).1, by simpa [rows_ints] using r⟩, rfl⟩
end
end Go.Cx
/-! Rows and changes in memory; strings' rules. No program in sight. -/
namespace Go.Cx
section
variable {P : Program} {ops : Array Oper} {Q : Exit → Act → World → Prop} {n : Nat} {e0 : World} {env : Env} {L L' : List Assn} {rest : List Oper}
variable {dst : Option Tmp} {ty : TypeId} {pos : String} {aft : Array Edge} {g : Option (Nat × Bool)}
theorem PS.lenStr {t : TypeId} [S : StrT P t] {x : Operand} {b : Blk} (hg : gd ops n env g = some true) (hx : ev n env x = some (sv b)) :
    PS P ops n env L ⟨dst, .call ⟨.builtin .len, #[x], #[t]⟩, ty, pos, aft, g⟩ (.int .i64 (b.length : Int)) :=
  ⟨hg, (fun a w hfr _ => by
    have h := hfr.eval hx
    have e : (ByteArray.mk b.toArray).size = b.length := by simp [ByteArray.size]
    simp only [execOp, resolve, invoke, builtin]
    simp [h, sv, Builtin.len_, run_underlying S.under, goInt, e])⟩
theorem run_strLss {t : TypeId} (a b : Blk) (w : World) : (Go.binOp .lss t (sv a) (sv b)).run P w = .ok (.bool (klt a b)) w := by
  have h1 : (ByteArray.mk a.toArray).toList = a := by rw [ByteArray.toList_eq]
  have h2 : (ByteArray.mk b.toArray).toList = b := by rw [ByteArray.toList_eq]
  simp only [Go.binOp, sv, Op.stringOp, h1, h2]; simp [klt]
theorem run_strGeq {t : TypeId} (a b : Blk) (w : World) : (Go.binOp .geq t (sv a) (sv b)).run P w = .ok (.bool (!klt a b)) w := by
  have h1 : (ByteArray.mk a.toArray).toList = a := by rw [ByteArray.toList_eq]
  have h2 : (ByteArray.mk b.toArray).toList = b := by rw [ByteArray.toList_eq]
  simp only [Go.binOp, sv, Op.stringOp, h1, h2]; simp [klt]
theorem klt_or (a b : Blk) : (!(klt a b || a == b)) = klt b a := by
  rcases klt_tri a b with h | rfl | h
  · rw [h, klt_asym h]; rfl
  · simp [klt_irr]
  · have : (a == b) = false := beq_eq_false_iff_ne.2 (klt_ne h).symm
    rw [h, klt_asym h, this]; rfl
theorem run_strGtr {t : TypeId} (a b : Blk) (w : World) : (Go.binOp .gtr t (sv a) (sv b)).run P w = .ok (.bool (klt b a)) w := by
  have h1 : (ByteArray.mk a.toArray).toList = a := by rw [ByteArray.toList_eq]
  have h2 : (ByteArray.mk b.toArray).toList = b := by rw [ByteArray.toList_eq]
  simp only [Go.binOp, sv, Op.stringOp, h1, h2]
  have := klt_or a b
  unfold klt at this ⊢
  simp only [Sem.run_pure]
  rw [this]
theorem PS.lssStr {t u : TypeId} {x y : Operand} {a b : Blk} (c : Bool) (hc : klt a b = c) (hg : gd ops n env g = some true := by rfl) (hx : ev n env x = some (sv a) := by rfl) (hy : ev n env y = some (sv b) := by rfl) :
    PS P ops n env L ⟨dst, .binOp .lss t x y u, ty, pos, aft, g⟩ (.bool c) := by
  subst hc
  exact ⟨hg, fun ac w hf _ => by
    have h1 := hf.eval hx
    have h2 := hf.eval hy
    simp [execOp, h1, h2, run_strLss]; simp [eqGuard, sv]⟩
theorem PS.gtrStr {t u : TypeId} {x y : Operand} {a b : Blk} (c : Bool) (hc : klt b a = c) (hg : gd ops n env g = some true := by rfl) (hx : ev n env x = some (sv a) := by rfl) (hy : ev n env y = some (sv b) := by rfl) :
    PS P ops n env L ⟨dst, .binOp .gtr t x y u, ty, pos, aft, g⟩ (.bool c) := by
  subst hc
  exact ⟨hg, fun ac w hf _ => by
    have h1 := hf.eval hx
    have h2 := hf.eval hy
    simp [execOp, h1, h2, run_strGtr]; simp [eqGuard, sv]⟩
theorem PS.geqStr {t u : TypeId} {x y : Operand} {a b : Blk} (c : Bool) (hc : (!klt a b) = c) (hg : gd ops n env g = some true := by rfl) (hx : ev n env x = some (sv a) := by rfl) (hy : ev n env y = some (sv b) := by rfl) :
    PS P ops n env L ⟨dst, .binOp .geq t x y u, ty, pos, aft, g⟩ (.bool c) := by
  subst hc
  exact ⟨hg, fun ac w hf _ => by
    have h1 := hf.eval hx
    have h2 := hf.eval hy
    simp [execOp, h1, h2, run_strGeq]; simp [eqGuard, sv]⟩
/-- A call of a closure. -/
theorem CX.callF {f : FuncId} [F : HasFn P f] {y : Operand} {cap : List Value} {xs : List Operand} {tys : Array TypeId} {args all : List Value} {H : List Assn} {pre : PH → Prop} {post : Value → List Assn → Prop}
    (S : Ctr P f all H pre post) (h : ∀ v M, post v M → CX P ops Q n e0 (putE env dst v) (M ++ L') rest) (hg : gd ops n env g = some true := by rfl)
    (hy : ev n env y = some (.func (.func f) #[] cap.toArray) := by rfl) (hx : evs n env xs = some args := by rfl) (ha : all = args ++ cap := by rfl) (hsel : Sel L H L' := by exact selA) (hpre : ∀ x, Sep L' x → pre x := by exact fun _ _ => trivial) :
    CX P ops Q n e0 env L (⟨dst, .call ⟨.value y, xs.toArray, tys⟩, ty, pos, aft, g⟩ :: rest) := by
  subst ha
  exact CX.callV (first := #[]) (cap := cap.toArray) hg hy hx (by simpa using S) hsel hpre h
/-- Cells that stand somewhere, to be read only. -/
@[irreducible] def rd (a : Option Addr) (len : Nat) (vs : List Value) : Assn where
  ok h := rdx a len vs h
  mono := fun _ _ l e => rdx_mono e l
theorem rd_ok {a : Option Addr} {len : Nat} {vs : List Value} {h : PH} : (rd a len vs).ok h ↔ rdx a len vs h := by
  unfold rd; exact Iff.rfl
theorem rdx_rd {L L' : List Assn} {a : Option Addr} {len : Nat} {vs : List Value} (p : Pick (rd a len vs) L L') : ∀ y, Sep L y → rdx a len vs y := fun y hy => rd_ok.1 (p.ok hy)
theorem CX.strBytes {s t e : TypeId} {sz : Nat} [S : StrT P s] [E : ElemA P t e sz] [I : IntT P e .u8] {x : Operand} {b : Blk}
    (h : ∀ q c, b.length ≤ c → CX P ops Q n e0 (putE env dst (.slice (some ⟨q, 0, none⟩) b.length c)) (rd (some ⟨q, 0, none⟩) b.length (cb b) :: L) rest) (hg : gd ops n env g = some true := by rfl) (hx : ev n env x = some (sv b) := by rfl) :
    CX P ops Q n e0 env L (⟨dst, .convert s t x, ty, pos, aft, g⟩ :: rest) := by
  refine CX.step hg fun a w hf hs he K hK => ?_
  have hsz : (ByteArray.mk b.toArray).size = b.length := by simp [ByteArray.size]
  have hrun := run_bytes_of_string (P := P) w s t e ⟨b.toArray⟩ S.under E.under I.under
  rw [hsz] at hrun
  have hge := grownCap_ge w b.length 0 e
  generalize grownCap w b.length 0 e = cap at hrun hge
  have hr2 : (execOp a.eval ⟨dst, .convert s t x, ty, pos, aft, g⟩).run P w = .ok (.value (.slice (some ⟨w.heap.size, 0, none⟩) b.length cap)) (w.drew.alloc (.cells (bytesRow ⟨b.toArray⟩ cap) e ((bytesRow ⟨b.toArray⟩ cap).size, (bytesRow ⟨b.toArray⟩ cap).size + 1))) := by
    have hv := hf.eval hx
    unfold sv at hv
    simp [execOp, hv, hrun]
  unfold Oper.wp
  rw [hr2]
  refine hK _ _ (h w.heap.size cap hge _ _ (hf.put dst _) ?_ (he.trans ⟨rfl, rfl, rfl⟩))
  rw [ph_alloc]
  refine Sep.push (ph_size w) (fun k hk => rd_ok.2 (.inr ⟨_, _, _, _, _, rfl, hk, fun j u hj => ?_⟩)) hs
  have hj' : j < b.length := by have := (List.getElem?_eq_some_iff.1 hj).1; simpa using this
  rw [Nat.zero_add, bytesRow_at _ _ _ (by simpa using hj')]
  simp only [cb, ib, List.map_map, List.getElem?_map, List.getElem?_eq_getElem hj', Option.map_some] at hj
  simpa using hj
end
/-! ### Rows and changes -/
structure RwV where
  key : Blk
  s : SlB
def RwV.cells (r : RwV) : List Value := [sv r.key, .slice r.s.a r.s.b.length r.s.c]
def RwV.m (r : RwV) : Blk × Blk := (r.key, r.s.b)
structure ChV where
  key : Blk
  s : SlB
  gone : Bool
def ChV.cells (r : ChV) : List Value := [sv r.key, .slice r.s.a r.s.b.length r.s.c, .bool r.gone]
def ChV.m (r : ChV) : ChM := ⟨r.key, r.s.b, r.gone⟩
theorem SlB.ok.mono {x y : PH} {s : SlB} (h : s.ok x) (l : Le x y) : s.ok y := ⟨h.nil, h.le, h.max, rdx_mono h.r l⟩
def rwAt (a : Option Addr) (l : List RwV) (x : PH) : Prop := rdx a (l.length * 2) (rows RwV.cells l) x ∧ ∀ r ∈ l, r.s.ok x
def chAt (a : Option Addr) (l : List ChV) (x : PH) : Prop := rdx a (l.length * 3) (rows ChV.cells l) x ∧ ∀ r ∈ l, r.s.ok x
theorem rwAt_mono {a : Option Addr} {l : List RwV} {x y : PH} (h : rwAt a l x) (k : Le x y) : rwAt a l y := ⟨rdx_mono h.1 k, fun r hr => (h.2 r hr).mono k⟩
theorem chAt_mono {a : Option Addr} {l : List ChV} {x y : PH} (h : chAt a l x) (k : Le x y) : chAt a l y := ⟨rdx_mono h.1 k, fun r hr => (h.2 r hr).mono k⟩
theorem rw_len (l : List RwV) : ∀ y ∈ l, (RwV.cells y).length = 2 := fun _ _ => rfl
theorem ch_len (l : List ChV) : ∀ y ∈ l, (ChV.cells y).length = 3 := fun _ _ => rfl
theorem rwAt_some {a : Option Addr} {l : List RwV} {x : PH} (h : rwAt a l x) (h0 : 0 < l.length) : ∃ g off, a = some ⟨g, off, none⟩ := rdx_some h.1 (by omega)
theorem chAt_some {a : Option Addr} {l : List ChV} {x : PH} (h : chAt a l x) (h0 : 0 < l.length) : ∃ g off, a = some ⟨g, off, none⟩ := rdx_some h.1 (by omega)
theorem rwAt.cells {L L' : List Assn} {x : PH} {g off i : Nat} {l : List RwV} (h : rwAt (some ⟨g, off, none⟩) l x) (p : Pick (exact x) L L') (hi : i < l.length) : CellsAt L g (off + i * 2) (l[i]).cells := CellsAt.row p h.1 (by omega) (rw_len l) hi
theorem chAt.cells {L L' : List Assn} {x : PH} {g off i : Nat} {l : List ChV} (h : chAt (some ⟨g, off, none⟩) l x) (p : Pick (exact x) L L') (hi : i < l.length) : CellsAt L g (off + i * 3) (l[i]).cells := CellsAt.row p h.1 (by omega) (ch_len l) hi
theorem rwAt.cell {L L' : List Assn} {x : PH} {g off i : Nat} {l : List RwV} {v : Value} (h : rwAt (some ⟨g, off, none⟩) l x) (p : Pick (exact x) L L') (hi : i < l.length) (j : Nat) (hv : (l[i]).cells[j]? = some v) : CellAt L g (off + i * 2 + j) v :=
  fun y hy => by
    obtain ⟨cs, t, fr, e, hc⟩ := h.cells p hi y hy
    exact ⟨cs, t, fr, e, hc j v hv⟩
theorem chAt.cell {L L' : List Assn} {x : PH} {g off i : Nat} {l : List ChV} {v : Value} (h : chAt (some ⟨g, off, none⟩) l x) (p : Pick (exact x) L L') (hi : i < l.length) (j : Nat) (hv : (l[i]).cells[j]? = some v) : CellAt L g (off + i * 3 + j) v :=
  fun y hy => by
    obtain ⟨cs, t, fr, e, hc⟩ := h.cells p hi y hy
    exact ⟨cs, t, fr, e, hc j v hv⟩
theorem rwAt.cellsE {L L' : List Assn} {x : PH} {g off i : Nat} {l : List RwV} {r : RwV} (h : rwAt (some ⟨g, off, none⟩) l x) (hi : i < l.length) (e : l[i] = r) (p : Pick (exact x) L L') : CellsAt L g (off + i * 2) r.cells := by subst e; exact h.cells p hi
theorem chAt.cellsE {L L' : List Assn} {x : PH} {g off i : Nat} {l : List ChV} {r : ChV} (h : chAt (some ⟨g, off, none⟩) l x) (hi : i < l.length) (e : l[i] = r) (p : Pick (exact x) L L') : CellsAt L g (off + i * 3) r.cells := by subst e; exact h.cells p hi
/-- A table, or changes, that stand somewhere. -/
@[irreducible] def tabA (a : Option Addr) (l : List RwV) : Assn where
  ok h := rwAt a l h
  mono := fun _ _ k e => rwAt_mono e k
@[irreducible] def chsA (a : Option Addr) (l : List ChV) : Assn where
  ok h := chAt a l h
  mono := fun _ _ k e => chAt_mono e k
theorem tabA_ok {a : Option Addr} {l : List RwV} {h : PH} : (tabA a l).ok h ↔ rwAt a l h := by
  unfold tabA; exact Iff.rfl
theorem chsA_ok {a : Option Addr} {l : List ChV} {h : PH} : (chsA a l).ok h ↔ chAt a l h := by
  unfold chsA; exact Iff.rfl
theorem rw_tab {L L' : List Assn} {a : Option Addr} {l : List RwV} (p : Pick (tabA a l) L L') : ∀ y, Sep L y → rwAt a l y := fun y hy => tabA_ok.1 (p.ok hy)
theorem ch_chs {L L' : List Assn} {a : Option Addr} {l : List ChV} (p : Pick (chsA a l) L L') : ∀ y, Sep L y → chAt a l y := fun y hy => chsA_ok.1 (p.ok hy)
theorem rw_ex {L L' : List Assn} {x : PH} (p : Pick (exact x) L L') {a : Option Addr} {l : List RwV} (h : rwAt a l x) : ∀ y, Sep L y → rwAt a l y := fun y hy => rwAt_mono h (p.ok hy)
theorem ch_ex {L L' : List Assn} {x : PH} (p : Pick (exact x) L L') {a : Option Addr} {l : List ChV} (h : chAt a l x) : ∀ y, Sep L y → chAt a l y := fun y hy => chAt_mono h (p.ok hy)
/-! ### Which may be -/
instance : DecidableEq ChM := fun a b => decidable_of_iff (a.key = b.key ∧ a.val = b.val ∧ a.gone = b.gone) ⟨fun h => by cases a; cases b; simp_all, fun h => by subst h; exact ⟨rfl, rfl, rfl⟩⟩
instance (c : ChM) : Decidable c.ok := decidable_of_iff (1 ≤ c.key.length ∧ c.key.length ≤ 16 ∧ c.val.length ≤ 1048576 ∧ (c.gone = true → c.val = [])) ⟨fun h => ⟨h.1, h.2.1, h.2.2.1, h.2.2.2⟩, fun h => ⟨h.k1, h.k2, h.v, h.g⟩⟩
instance (l : List ChM) : Decidable (RisingC l) := by unfold RisingC; infer_instance
instance (l : List ChM) : Decidable (MayC l) := by unfold MayC; infer_instance
instance (t : Tab) : Decidable (Rising t) := by unfold Rising; infer_instance
def okR (r : Blk × Blk) : Prop := 1 ≤ r.1.length ∧ r.1.length ≤ 16 ∧ r.2.length ≤ 1048576
instance (r : Blk × Blk) : Decidable (okR r) := by unfold okR; infer_instance
def MayR (t : Tab) : Prop := Rising t ∧ ∀ r ∈ t, okR r
instance (t : Tab) : Decidable (MayR t) := by unfold MayR; infer_instance
theorem pw_adj {α : Type} (k : α → Blk) : ∀ (l : List α), (∀ j (h : j + 1 < l.length), klt (k (l[j]'(by omega))) (k l[j + 1]) = true) → l.Pairwise fun x y => klt (k x) (k y) = true
  | [], _ => .nil
  | [x], _ => by simp
  | x :: y :: t, h => by
    have ih := pw_adj k (y :: t) (fun j hj => by have := h (j + 1) (by simp at hj ⊢; omega); simpa using this)
    have h0 := h 0 (by simp)
    simp only [List.getElem_cons_zero, List.getElem_cons_succ] at h0
    refine List.pairwise_cons.2 ⟨fun z hz => ?_, ih⟩
    rcases List.mem_cons.1 hz with rfl | hz
    · exact h0
    · exact klt_tr h0 ((List.pairwise_cons.1 ih).1 z hz)
theorem adj_pw {α : Type} (k : α → Blk) {l : List α} (h : l.Pairwise fun x y => klt (k x) (k y) = true) (j : Nat) (hj : j + 1 < l.length) : klt (k (l[j]'(by omega))) (k l[j + 1]) = true :=
  List.pairwise_iff_getElem.1 h j (j + 1) (by omega) hj (by omega)
def rwKey (r : RwV) : Blk := r.key
def chKey (r : ChV) : Blk := r.key
theorem risR_iff (l : List RwV) : Rising (l.map RwV.m) ↔ l.Pairwise fun x y => klt (rwKey x) (rwKey y) = true := by unfold Rising; rw [List.pairwise_map]; exact Iff.rfl
theorem risC_iff (l : List ChV) : RisingC (l.map ChV.m) ↔ l.Pairwise fun x y => klt (chKey x) (chKey y) = true := by unfold RisingC; rw [List.pairwise_map]; exact Iff.rfl
end Go.Cx
