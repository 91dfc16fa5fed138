/- A disk, in plain words: what is sure, what is not, and the steps to come. No program in sight. -/
import Derived.Test.YtlckhaodecdbbaaCe
set_option linter.unusedSimpArgs false
set_option linter.unusedVariables false
namespace Go.Cx
abbrev Blk := List UInt8
def ib (b : Blk) : List Int := b.map fun x => ((x.toNat : Nat) : Int)
/-- A block's cells. -/
def cb (b : Blk) : List Value := (ib b).map (Value.int .u8)
def zblk : Blk := List.replicate 128 0

theorem ib_inj {a b : Blk} : ib a = ib b ↔ a = b := by
  unfold ib
  constructor
  · intro h
    have : ∀ (a b : List UInt8), a.map (fun x => ((x.toNat : Nat) : Int)) = b.map (fun x => ((x.toNat : Nat) : Int)) → a = b := by
      intro a
      induction a with
      | nil => intro b h; cases b <;> simp_all
      | cons x a ih =>
        intro b h
        cases b with
        | nil => simp at h
        | cons y b =>
          simp only [List.map_cons, List.cons.injEq] at h
          have h1 : x.toNat = y.toNat := by omega
          rw [UInt8.toNat_inj.1 h1, ih b h.2]
    exact this a b h
  · rintro rfl; rfl
@[simp] theorem length_ib (b : Blk) : (ib b).length = b.length := by simp [ib]
@[simp] theorem length_cb (b : Blk) : (cb b).length = b.length := by simp [cb]
theorem one_cb (b : Blk) : ∀ u ∈ cb b, u.oneCell' = true := by
  intro u hu; simp only [cb, List.mem_map] at hu; obtain ⟨z, _, rfl⟩ := hu; rfl
theorem cb_z : cb zblk = List.replicate 128 (.int .u8 0) := by simp [cb, ib, zblk]
theorem cb_append (a b : Blk) : cb (a ++ b) = cb a ++ cb b := by simp [cb, ib]
theorem cb_take (a : Blk) (n : Nat) : (cb a).take n = cb (a.take n) := by simp [cb, ib, List.map_take]
theorem cb_drop (a : Blk) (n : Nat) : (cb a).drop n = cb (a.drop n) := by simp [cb, ib, List.map_drop]
theorem cb_get (a : Blk) (n : Nat) (h : n < a.length) : (cb a)[n]? = some (.int .u8 (a[n].toNat : Int)) := by simp [cb, ib, h]
theorem cb_setL (a v : Blk) (o : Nat) : setL (cb a) o (cb v) = cb (a.take o ++ (v ++ a.drop (o + v.length))) := by
  simp [setL, cb, ib, List.map_take, List.map_drop]

def WB (b : Blk) : Prop := b.length = 128
theorem WB_z : WB zblk := by simp [WB, zblk]

/-! ### Rows of equal parts -/
def rows {α : Type} (f : α → List Value) (l : List α) : List Value := (l.map f).flatten
theorem length_rows {α : Type} (f : α → List Value) (k : Nat) (l : List α) (h : ∀ x ∈ l, (f x).length = k) : (rows f l).length = l.length * k := by
  induction l with
  | nil => simp [rows]
  | cons x l ih =>
    have := ih fun y hy => h y (by simp [hy])
    simp only [rows, List.map_cons, List.flatten_cons, List.length_append] at this ⊢
    rw [h x (by simp), List.length_cons, Nat.add_mul, this]; omega
theorem rows_append {α : Type} (f : α → List Value) (a b : List α) : rows f (a ++ b) = rows f a ++ rows f b := by simp [rows]
theorem rows_drop {α : Type} (f : α → List Value) (k : Nat) (l : List α) (h : ∀ x ∈ l, (f x).length = k) (i : Nat) : (rows f l).drop (i * k) = rows f (l.drop i) := by
  induction l generalizing i with
  | nil => simp [rows]
  | cons x l ih =>
    cases i with
    | zero => simp
    | succ i =>
      have := ih (fun y hy => h y (by simp [hy])) i
      simp only [rows, List.map_cons, List.flatten_cons, List.drop_succ_cons] at this ⊢
      rw [← this, Nat.add_mul, Nat.one_mul, Nat.add_comm, ← List.drop_drop, ← h x (by simp)]
      simp
theorem rows_take {α : Type} (f : α → List Value) (k : Nat) (l : List α) (h : ∀ x ∈ l, (f x).length = k) (i : Nat) : (rows f l).take (i * k) = rows f (l.take i) := by
  induction l generalizing i with
  | nil => simp [rows]
  | cons x l ih =>
    cases i with
    | zero => simp [rows]
    | succ i =>
      have := ih (fun y hy => h y (by simp [hy])) i
      simp only [rows, List.map_cons, List.flatten_cons, List.take_succ_cons] at this ⊢
      rw [← this, Nat.add_mul, Nat.one_mul, Nat.add_comm, ← h x (by simp), List.take_append]
      rw [List.take_of_length_le (by omega)]
      simp
theorem rows_get {α : Type} (f : α → List Value) (k : Nat) (l : List α) (h : ∀ x ∈ l, (f x).length = k) (i : Nat) (hi : i < l.length) (j m : Nat) (hj : j + m ≤ k) :
    ((rows f l).drop (i * k + j)).take m = ((f l[i]).drop j).take m := by
  rw [← List.drop_drop, rows_drop f k l h, List.drop_eq_getElem_cons hi]
  simp only [rows, List.map_cons, List.flatten_cons]
  have := h l[i] (by simp)
  rw [List.drop_append_of_le_length (by omega), List.take_append_of_le_length (by simp; omega)]
theorem rows_set {α : Type} (f : α → List Value) (k : Nat) (l : List α) (h : ∀ x ∈ l, (f x).length = k) (i : Nat) (hi : i < l.length) (j : Nat) (vs : List Value) (y : α) (hj : j + vs.length ≤ k)
    (hy : f y = setL (f l[i]) j vs) : setL (rows f l) (i * k + j) vs = rows f (l.set i y) := by
  have hlen := length_rows f k l h
  have e : l = l.take i ++ (l[i] :: l.drop (i + 1)) := by simp
  have hk : (f l[i]).length = k := h _ (by simp)
  have e2 : l.set i y = l.take i ++ (y :: l.drop (i + 1)) := by rw [List.set_eq_take_append_cons_drop]; simp [hi]
  have hpre : (rows f (l.take i)).length = i * k := by
    rw [length_rows f k _ fun x hx => h x (List.mem_of_mem_take hx)]; simp [Nat.min_eq_left (Nat.le_of_lt hi)]
  rw [e2, rows_append]
  have e3 : rows f l = rows f (l.take i) ++ (f l[i] ++ rows f (l.drop (i + 1))) := by
    conv => lhs; rw [e, rows_append]
    rfl
  rw [e3]
  have e4 : rows f (y :: l.drop (i + 1)) = setL (f l[i]) j vs ++ rows f (l.drop (i + 1)) := by simp [rows, ← hy]
  rw [e4]
  simp only [setL]
  rw [List.take_append, List.take_of_length_le (by omega), hpre, Nat.add_sub_cancel_left]
  rw [List.take_append_of_le_length (by omega)]
  rw [List.drop_append, List.drop_of_length_le (show (rows f (l.take i)).length ≤ i * k + j + vs.length by omega), hpre]
  have e5 : i * k + j + vs.length - i * k = j + vs.length := by omega
  rw [e5, List.drop_append_of_le_length (by omega)]
  simp

theorem rows_at {α : Type} (f : α → List Value) (k : Nat) (l : List α) (h : ∀ x ∈ l, (f x).length = k) (i : Nat) (hi : i < l.length) (j : Nat) (hj : j < k) : (rows f l)[i * k + j]? = (f l[i])[j]? := by
  have := rows_get f k l h i hi j 1 (by omega)
  have e : ∀ (a : List Value) (n : Nat), a[n]? = ((a.drop n).take 1)[0]? := fun a n => by simp [List.getElem?_take]
  rw [e, this, ← e]

def flat (S : List Blk) : List Value := rows cb S
def pc (p : Nat × Blk) : List Value := .int .i64 (p.1 : Int) :: cb p.2
def flatL (l : List (Nat × Blk)) : List Value := rows pc l
theorem one_flat (S : List Blk) : ∀ u ∈ flat S, u.oneCell' = true := by
  intro u hu; simp only [flat, rows, List.mem_flatten, List.mem_map] at hu; obtain ⟨l, ⟨b, _, rfl⟩, h⟩ := hu; exact one_cb b u h
theorem one_flatL (l : List (Nat × Blk)) : ∀ u ∈ flatL l, u.oneCell' = true := by
  intro u hu; simp only [flatL, rows, List.mem_flatten, List.mem_map] at hu; obtain ⟨_, ⟨b, _, rfl⟩, h⟩ := hu
  simp only [pc, List.mem_cons] at h
  rcases h with rfl | h
  · rfl
  · exact one_cb _ u h

structure DS where
  sure : List Blk
  loose : List (Nat × Blk)
  left : Int
  steps : Nat
  dark : Bool

/-- Well made, N steps or fewer behind it. -/
structure DS.wf (D : DS) (N : Nat) : Prop where
  lo : 64 ≤ D.sure.length
  hi : D.sure.length ≤ 4096
  wb : ∀ b ∈ D.sure, WB b
  lb : ∀ p ∈ D.loose, p.1 < D.sure.length ∧ WB p.2
  left0 : 0 ≤ D.left
  left1 : D.left ≤ 9223372036854775807
  steps : D.steps ≤ N
  loose : D.loose.length ≤ N

def errOf (n : Int) (len : Nat) : Int := if 0 ≤ n ∧ n < len then 0 else 2
def DS.there (D : DS) (n : Int) : Int := errOf n D.sure.length
def DS.lit (D : DS) (n : Int) : Int := if D.dark then 9 else D.there n
def DS.step (D : DS) : Int × DS := if D.left = 1 then (9, { D with dark := true }) else (0, { D with left := max (D.left - 1) 0, steps := D.steps + 1 })
def DS.write (D : DS) (n : Int) (b : Blk) : Int × DS :=
  if D.lit n ≠ 0 then (D.lit n, D) else if D.step.1 = 0 then (0, { D.step.2 with loose := D.step.2.loose ++ [(n.toNat, b)] }) else D.step
/-- Of a write so many bytes. -/
def torn (old now : Blk) (n : Nat) : Blk := now.take n ++ old.drop n
def pickAt (picks : List Int) (others : Nat) (i : Nat) : Nat := match picks[i]? with | some z => (min (max z 0) 128).toNat | none => others
def settleL (S : List Blk) (picks : List Int) (others : Nat) : Nat → List (Nat × Blk) → List Blk
  | _, [] => S
  | i, p :: l => settleL (S.set p.1 (torn (S.getD p.1 []) p.2 (pickAt picks others i))) picks others (i + 1) l
def DS.settle (D : DS) (picks : List Int) (others : Nat) : DS := { D with sure := settleL D.sure picks others 0 D.loose, loose := [] }
def DS.flush (D : DS) : Int × DS := if D.lit 0 ≠ 0 then (D.lit 0, D) else if D.step.1 = 0 then (0, D.step.2.settle [] 128) else D.step
def DS.arm (D : DS) (n : Int) : Int × DS := if D.lit 0 ≠ 0 then (D.lit 0, D) else if n < 0 then (2, D) else (0, { D with left := n })
def DS.crash (D : DS) (picks : List Int) : DS := { D.settle picks 0 with dark := false, left := 0 }
/-- What was written last. -/
def DS.get (D : DS) (n : Nat) : Blk := match D.loose.reverse.find? (·.1 == n) with | some p => p.2 | none => D.sure.getD n []
def DS.read (D : DS) (n : Int) : Blk × Int := if D.lit n ≠ 0 then (zblk, D.lit n) else (D.get n.toNat, 0)
def DS.sureAt (D : DS) (n : Int) : Blk × Int := if D.there n ≠ 0 then (zblk, D.there n) else (D.sure.getD n.toNat [], 0)
def DS.rot (D : DS) (n at_ : Int) (by_ : UInt8) : Int × DS :=
  if D.there n ≠ 0 then (D.there n, D) else if at_ < 0 ∨ 128 ≤ at_ then (2, D) else
    (0, { D with sure := D.sure.set n.toNat ((D.sure.getD n.toNat []).set at_.toNat ((D.sure.getD n.toNat []).getD at_.toNat 0 ^^^ by_)) })
def DS.new (n : Nat) : DS := { sure := List.replicate n zblk, loose := [], left := 0, steps := 0, dark := false }

theorem settleL_snoc (picks : List Int) (o : Nat) (l : List (Nat × Blk)) (p : Nat × Blk) : ∀ (S : List Blk) (i : Nat), settleL S picks o i (l ++ [p]) = (settleL S picks o i l).set p.1 (torn ((settleL S picks o i l).getD p.1 []) p.2 (pickAt picks o (i + l.length))) := by
  induction l with
  | nil => intro S i; simp [settleL]
  | cons q l ih =>
    intro S i
    simp only [List.cons_append, settleL]
    rw [ih]
    simp only [List.length_cons]
    rw [show i + 1 + l.length = i + (l.length + 1) by omega]
theorem length_settleL (picks : List Int) (o : Nat) (l : List (Nat × Blk)) : ∀ (S : List Blk) (i : Nat), (settleL S picks o i l).length = S.length := by
  induction l with
  | nil => intro S i; rfl
  | cons q l ih => intro S i; simp only [settleL]; rw [ih]; simp
theorem torn_WB {a b : Blk} {n : Nat} (ha : WB a) (hb : WB b) : WB (torn a b n) := by
  unfold WB torn at *; simp; omega
theorem getD_WB {S : List Blk} (h : ∀ b ∈ S, WB b) {k : Nat} (hk : k < S.length) : WB (S.getD k []) := by
  rw [List.getD_eq_getElem?_getD, List.getElem?_eq_getElem hk]; exact h _ (by simp)
theorem settleL_WB (picks : List Int) (o : Nat) (l : List (Nat × Blk)) : ∀ (S : List Blk) (i : Nat), (∀ b ∈ S, WB b) → (∀ p ∈ l, p.1 < S.length ∧ WB p.2) → ∀ b ∈ settleL S picks o i l, WB b := by
  induction l with
  | nil => intro S i h _; exact h
  | cons q l ih =>
    intro S i h hl
    simp only [settleL]
    refine ih _ _ (fun b hb => ?_) (fun p hp => by rw [List.length_set]; exact hl p (by simp [hp]))
    rcases List.mem_or_eq_of_mem_set hb with hb | rfl
    · exact h b hb
    · exact torn_WB (getD_WB h (hl q (by simp)).1) (hl q (by simp)).2
theorem settle_wf {D : DS} {N : Nat} (h : D.wf N) (picks : List Int) (o : Nat) : (D.settle picks o).wf N :=
  ⟨by simp only [DS.settle, length_settleL]; exact h.lo, by simp only [DS.settle, length_settleL]; exact h.hi, settleL_WB _ _ _ _ _ h.wb h.lb, by simp [DS.settle], h.left0, h.left1, h.steps, by simp [DS.settle]⟩
theorem one_pc (p : Nat × Blk) : ∀ u ∈ pc p, u.oneCell' = true := by
  intro u hu; simp only [pc, List.mem_cons] at hu
  rcases hu with rfl | hu
  · rfl
  · exact one_cb _ u hu
theorem length_pc {p : Nat × Blk} (h : WB p.2) : (pc p).length = 129 := by simp [pc, WB] at *; exact h
theorem flatL_p (l : List (Nat × Blk)) (h : ∀ p ∈ l, WB p.2) (j : Nat) (hj : j < l.length) : ((flatL l).drop (j * 129)).take 129 = pc l[j] := by
  have := rows_get pc 129 l (fun x hx => length_pc (h x hx)) j hj 0 129 (by omega)
  rw [Nat.add_zero] at this
  rw [flatL, this, List.drop_zero, List.take_of_length_le (by rw [length_pc (h _ (by simp))]; omega)]
theorem length_flat {S : List Blk} (h : ∀ b ∈ S, WB b) : (flat S).length = S.length * 128 := length_rows cb 128 S fun x hx => by rw [length_cb]; exact h x hx
theorem flat_set {S : List Blk} (h : ∀ b ∈ S, WB b) {k : Nat} (hk : k < S.length) (b : Blk) (m : Nat) (hm : m ≤ 128) (hb : WB b) : setL (flat S) (k * 128) (cb (b.take m)) = flat (S.set k (torn (S.getD k []) b m)) := by
  have hg : S.getD k [] = S[k] := by simp [hk]
  have hw := h S[k] (by simp)
  have := rows_set cb 128 S (fun x hx => by rw [length_cb]; exact h x hx) k hk 0 (cb (b.take m)) (torn S[k] b m) (by simp [WB] at hb ⊢; omega) (by
    have e : (b.take m).length = m := by rw [List.length_take, hb]; omega
    rw [cb_setL, e]; simp [torn])
  rw [Nat.add_zero] at this
  rw [hg]; exact this
theorem flat_zs (k : Nat) : flat (List.replicate k zblk) = List.replicate (k * 128) (.int .u8 0) := by
  induction k with
  | zero => rfl
  | succ k ih =>
    have : flat (zblk :: List.replicate k zblk) = cb zblk ++ flat (List.replicate k zblk) := rfl
    rw [List.replicate_succ, this, ih, cb_z, List.replicate_append_replicate]
    congr 1; omega
theorem made_rep (v : Value) (m n : Nat) (hm : 0 < m) : (madeCells (List.replicate m v).toArray n).toList = List.replicate n v := by
  apply List.ext_getElem
  · simp [madeCells]
  · intro i h1 h2
    simp only [madeCells, Array.getElem_toList, Array.getElem_map, List.getElem_replicate]
    rw [getElem!_pos _ _ (by simp; exact Nat.mod_lt _ hm)]
    simp
theorem fill_put (k : Nat) (b : Blk) (hb : WB b) : fillL (fun i => [(0, 1), (1, 128)][i]?) (Value.agg ([(.int .i64 0)] ++ List.replicate 128 (.int .u8 0) : List Value).toArray).cells.toList [(0, .int .i64 (k : Int)), (1, .agg (cb b).toArray)] = some (pc (k, b)) := by
  have h : (cb b).length = 128 := by rw [length_cb]; exact hb
  simp [fillL, Value.cells, setL, h, pc]
theorem fill_one {sz : Nat} {cells vs : List Value} (h : vs.length = sz) (hc : cells.length = sz) : fillL (fun i => some (i * sz, sz)) cells [(0, .agg vs.toArray)] = some vs := by
  simp [fillL, Value.cells, setL, h, hc, List.drop_of_length_le]
/-- The last write to a block. -/
def lastOf (l : List (Nat × Blk)) (k : Nat) : Option (Nat × Blk) := l.reverse.find? (·.1 == k)
theorem lastOf_succ (l : List (Nat × Blk)) (k j : Nat) (h : j < l.length) : lastOf (l.take (j + 1)) k = if l[j].1 = k then some l[j] else lastOf (l.take j) k := by
  unfold lastOf
  rw [List.take_succ_eq_append_getElem h, List.reverse_append]
  simp only [List.reverse_cons, List.reverse_nil, List.nil_append, List.cons_append, List.find?_cons]
  by_cases e : l[j].1 = k
  · simp [e]
  · simp [e, beq_eq_false_iff_ne.2 e]
theorem flatL_n (l : List (Nat × Blk)) (h : ∀ p ∈ l, WB p.2) (j : Nat) (hj : j < l.length) : (flatL l)[j * 129]? = some (.int .i64 (l[j].1 : Int)) := by
  have := rows_at pc 129 l (fun x hx => by have := h x hx; simp [pc, WB] at this ⊢; exact this) j hj 0 (by omega)
  rw [Nat.add_zero] at this
  rw [flatL, this]; rfl
theorem flatL_b (l : List (Nat × Blk)) (h : ∀ p ∈ l, WB p.2) (j : Nat) (hj : j < l.length) : ((flatL l).drop (j * 129 + 1)).take 128 = cb l[j].2 := by
  have := rows_get pc 129 l (fun x hx => by have := h x hx; simp [pc, WB] at this ⊢; exact this) j hj 1 128 (by omega)
  rw [flatL, this]
  have hb := h l[j] (by simp)
  simp only [pc, List.drop_succ_cons, List.drop_zero]
  rw [List.take_of_length_le]; simp [WB] at hb ⊢; omega
end Go.Cx
