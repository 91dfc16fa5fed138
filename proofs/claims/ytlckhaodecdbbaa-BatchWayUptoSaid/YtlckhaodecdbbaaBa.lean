/- Keys in order, tables, changes, batches: plain laws. No program in sight. -/
import Derived.Test.YtlckhaodecdbbaaSe
import Derived.Laws.Strings
set_option linter.unusedVariables false
set_option linter.unusedSimpArgs false
namespace Go.Cx
/-! ### Keys, in order -/
def klt (a b : Blk) : Bool := Op.bytesLess a b
theorem klt_nil (a : Blk) : klt a [] = false := by unfold klt; cases a <;> rfl
theorem klt_cons (x y : UInt8) (a b : Blk) : klt (x :: a) (y :: b) = (decide (x < y) || (x == y && klt a b)) := by rfl
theorem klt_irr (a : Blk) : klt a a = false := by
  induction a with
  | nil => rfl
  | cons x a ih => rw [klt_cons, ih]; simp [UInt8.lt_irrefl]
theorem klt_tr {a b c : Blk} (h : klt a b = true) (k : klt b c = true) : klt a c = true := by
  induction a generalizing b c with
  | nil =>
    cases c with
    | nil => rw [klt_nil] at k; cases k
    | cons z c => rfl
  | cons x a ih =>
    cases b with
    | nil => rw [klt_nil] at h; cases h
    | cons y b =>
      cases c with
      | nil => rw [klt_nil] at k; cases k
      | cons z c =>
        rw [klt_cons] at h k ⊢
        simp only [Bool.or_eq_true, decide_eq_true_eq, Bool.and_eq_true, beq_iff_eq] at h k ⊢
        rcases h with h | ⟨rfl, h⟩
        · rcases k with k | ⟨rfl, k⟩
          · exact .inl (UInt8.lt_trans h k)
          · exact .inl h
        · rcases k with k | ⟨rfl, k⟩
          · exact .inl k
          · exact .inr ⟨rfl, ih h k⟩
theorem klt_tri (a b : Blk) : klt a b = true ∨ a = b ∨ klt b a = true := by
  induction a generalizing b with
  | nil => cases b with
    | nil => exact .inr (.inl rfl)
    | cons y b => exact .inl rfl
  | cons x a ih =>
    cases b with
    | nil => exact .inr (.inr rfl)
    | cons y b =>
      simp only [klt_cons, Bool.or_eq_true, decide_eq_true_eq, Bool.and_eq_true, beq_iff_eq, List.cons.injEq]
      rcases Nat.lt_trichotomy x.toNat y.toNat with h | h | h
      · exact .inl (.inl h)
      · have e : x = y := UInt8.toNat_inj.1 h
        subst e
        rcases ih b with h | h | h
        · exact .inl (.inr ⟨rfl, h⟩)
        · exact .inr (.inl ⟨rfl, h⟩)
        · exact .inr (.inr (.inr ⟨rfl, h⟩))
      · exact .inr (.inr (.inl h))
theorem klt_asym {a b : Blk} (h : klt a b = true) : klt b a = false := by
  cases k : klt b a with
  | false => rfl
  | true => have := klt_tr h k; rw [klt_irr] at this; cases this
theorem klt_ne {a b : Blk} (h : klt a b = true) : a ≠ b := fun e => by subst e; rw [klt_irr] at h; cases h
/-! ### Tables -/
abbrev Tab := List (Blk × Blk)
def Rising (t : Tab) : Prop := t.Pairwise fun x y => klt x.1 y.1 = true
def val (t : Tab) (k : Blk) : Option Blk := (t.find? (·.1 == k)).map (·.2)
theorem val_nil (k : Blk) : val [] k = none := rfl
theorem val_cons (x : Blk × Blk) (t : Tab) (k : Blk) : val (x :: t) k = if x.1 = k then some x.2 else val t k := by
  unfold val
  rw [List.find?_cons]
  by_cases h : x.1 = k
  · simp [h]
  · simp [h, beq_eq_false_iff_ne.2 h]
theorem val_low {t : Tab} {k : Blk} (h : ∀ y ∈ t, klt k y.1 = true) : val t k = none := by
  induction t with
  | nil => rfl
  | cons x t ih =>
    rw [val_cons, if_neg (fun e => klt_ne (h x (by simp)) e.symm)]
    exact ih fun y hy => h y (by simp [hy])
theorem val_mem {t : Tab} (r : Rising t) {x : Blk × Blk} (h : x ∈ t) : val t x.1 = some x.2 := by
  induction t with
  | nil => cases h
  | cons y t ih =>
    rw [val_cons]
    rcases List.mem_cons.1 h with rfl | h
    · simp
    · rw [if_neg (klt_ne ((List.pairwise_cons.1 r).1 x h))]
      exact ih (List.pairwise_cons.1 r).2 h
theorem mem_val {t : Tab} {k v : Blk} (h : val t k = some v) : (k, v) ∈ t := by
  induction t with
  | nil => cases h
  | cons x t ih =>
    rw [val_cons] at h
    split at h
    · rename_i e; subst e; cases h; simp
    · simp [ih h]
/-- Two tables that tell the same are the same. -/
theorem val_ext {a b : Tab} (ra : Rising a) (rb : Rising b) (h : ∀ k, val a k = val b k) : a = b := by
  induction a generalizing b with
  | nil =>
    cases b with
    | nil => rfl
    | cons y b => have := h y.1; rw [val_nil, val_cons, if_pos rfl] at this; cases this
  | cons x a ih =>
    cases b with
    | nil => have := h x.1; rw [val_nil, val_cons, if_pos rfl] at this; cases this
    | cons y b =>
      have pa := List.pairwise_cons.1 ra
      have pb := List.pairwise_cons.1 rb
      have key : x.1 = y.1 := by
        rcases klt_tri x.1 y.1 with hl | he | hl
        · have h1 := h x.1
          rw [val_cons, if_pos rfl, val_cons, if_neg (klt_ne hl).symm, val_low (fun z hz => klt_tr hl (pb.1 z hz))] at h1
          cases h1
        · exact he
        · have h1 := h y.1
          rw [val_cons, val_cons, if_pos rfl, if_neg (klt_ne hl).symm, val_low (fun z hz => klt_tr hl (pa.1 z hz))] at h1
          cases h1
      have hv : x.2 = y.2 := by
        have h1 := h x.1
        rw [val_cons, if_pos rfl, val_cons, if_pos key.symm] at h1
        exact Option.some.inj h1
      have e : x = y := Prod.ext key hv
      subst e
      congr 1
      refine ih pa.2 pb.2 fun k => ?_
      have h1 := h k
      rw [val_cons, val_cons] at h1
      split at h1
      · rename_i e; subst e
        rw [val_low pa.1, val_low pb.1]
      · exact h1
/-! ### Changes -/
structure ChM where
  key : Blk
  val : Blk
  gone : Bool
def RisingC (l : List ChM) : Prop := l.Pairwise fun x y => klt x.key y.key = true
def chg (l : List ChM) (k : Blk) : Option ChM := l.find? (·.key == k)
theorem chg_cons (x : ChM) (l : List ChM) (k : Blk) : chg (x :: l) k = if x.key = k then some x else chg l k := by
  unfold chg
  rw [List.find?_cons]
  by_cases h : x.key = k
  · simp [h]
  · simp [h, beq_eq_false_iff_ne.2 h]
theorem chg_low {l : List ChM} {k : Blk} (h : ∀ y ∈ l, klt k y.key = true) : chg l k = none := by
  induction l with
  | nil => rfl
  | cons x t ih =>
    rw [chg_cons, if_neg (fun e => klt_ne (h x (by simp)) e.symm)]
    exact ih fun y hy => h y (by simp [hy])
/-- What changes leave of a key. -/
def chV (l : List ChM) (k : Blk) (o : Option Blk) : Option Blk := match chg l k with | some c => if c.gone then none else some c.val | none => o
theorem chV_cons (y : ChM) (l : List ChM) (k : Blk) (o : Option Blk) : chV (y :: l) k o = if y.key = k then (if y.gone then none else some y.val) else chV l k o := by
  unfold chV
  rw [chg_cons]
  by_cases h : y.key = k <;> simp [h]
theorem chV_low {l : List ChM} {k : Blk} (h : ∀ y ∈ l, klt k y.key = true) (o : Option Blk) : chV l k o = o := by
  unfold chV
  rw [chg_low h]
/-- A table behind changes. -/
def applyM : Tab → List ChM → Tab
  | [], [] => []
  | x :: t, [] => x :: t
  | [], y :: l => if y.gone then applyM [] l else (y.key, y.val) :: applyM [] l
  | x :: t, y :: l =>
    if klt x.1 y.key then x :: applyM t (y :: l)
    else if x.1 = y.key then (if y.gone then applyM t l else (y.key, y.val) :: applyM t l)
    else if y.gone then applyM (x :: t) l else (y.key, y.val) :: applyM (x :: t) l
termination_by t l => t.length + l.length
/-- What makes a table another one. -/
def betweenM : Tab → Tab → List ChM
  | [], [] => []
  | x :: a, [] => ⟨x.1, [], true⟩ :: betweenM a []
  | [], y :: b => ⟨y.1, y.2, false⟩ :: betweenM [] b
  | x :: a, y :: b =>
    if klt x.1 y.1 then ⟨x.1, [], true⟩ :: betweenM a (y :: b)
    else if x.1 = y.1 then (if x.2 = y.2 then betweenM a b else ⟨y.1, y.2, false⟩ :: betweenM a b)
    else ⟨y.1, y.2, false⟩ :: betweenM (x :: a) b
termination_by a b => a.length + b.length
theorem apply_low {k : Blk} : ∀ (t : Tab) (l : List ChM), (∀ y ∈ t, klt k y.1 = true) → (∀ y ∈ l, klt k y.key = true) → ∀ y ∈ applyM t l, klt k y.1 = true := by
  intro t l
  fun_induction applyM t l with
  | case1 => intro _ _ z hz; cases hz
  | case2 x t => intro h1 _; exact h1
  | case3 y l hg ih => intro h1 h2; exact ih h1 fun z hz => h2 z (by simp [hz])
  | case4 y l hg ih =>
    intro h1 h2 z hz
    rcases List.mem_cons.1 hz with rfl | hz
    · exact h2 y (by simp)
    · exact ih h1 (fun z hz => h2 z (by simp [hz])) z hz
  | case5 x t y l hlt ih =>
    intro h1 h2 z hz
    rcases List.mem_cons.1 hz with rfl | hz
    · exact h1 _ (by simp)
    · exact ih (fun z hz => h1 z (by simp [hz])) h2 z hz
  | case6 x t y l hlt he hg ih => intro h1 h2; exact ih (fun z hz => h1 z (by simp [hz])) fun z hz => h2 z (by simp [hz])
  | case7 x t y l hlt he hg ih =>
    intro h1 h2 z hz
    rcases List.mem_cons.1 hz with rfl | hz
    · exact h2 y (by simp)
    · exact ih (fun z hz => h1 z (by simp [hz])) (fun z hz => h2 z (by simp [hz])) z hz
  | case8 x t y l hlt he hg ih => intro h1 h2; exact ih h1 fun z hz => h2 z (by simp [hz])
  | case9 x t y l hlt he hg ih =>
    intro h1 h2 z hz
    rcases List.mem_cons.1 hz with rfl | hz
    · exact h2 y (by simp)
    · exact ih h1 (fun z hz => h2 z (by simp [hz])) z hz
theorem apply_rising : ∀ (t : Tab) (l : List ChM), Rising t → RisingC l → Rising (applyM t l) := by
  intro t l
  fun_induction applyM t l with
  | case1 => intro _ _; exact .nil
  | case2 x t => intro h _; exact h
  | case3 y l hg ih => intro h k; exact ih h (List.pairwise_cons.1 k).2
  | case4 y l hg ih =>
    intro h k
    have k' := List.pairwise_cons.1 k
    exact List.pairwise_cons.2 ⟨apply_low _ _ (by simp) k'.1, ih h k'.2⟩
  | case5 x t y l hlt ih =>
    intro h k
    have h' := List.pairwise_cons.1 h
    have k' := List.pairwise_cons.1 k
    refine List.pairwise_cons.2 ⟨apply_low _ _ h'.1 (fun z hz => ?_), ih h'.2 k⟩
    rcases List.mem_cons.1 hz with rfl | hz
    · exact hlt
    · exact klt_tr hlt (k'.1 z hz)
  | case6 x t y l hlt he hg ih => intro h k; exact ih (List.pairwise_cons.1 h).2 (List.pairwise_cons.1 k).2
  | case7 x t y l hlt he hg ih =>
    intro h k
    have h' := List.pairwise_cons.1 h
    have k' := List.pairwise_cons.1 k
    exact List.pairwise_cons.2 ⟨apply_low _ _ (by rw [← he]; exact h'.1) k'.1, ih h'.2 k'.2⟩
  | case8 x t y l hlt he hg ih => intro h k; exact ih h (List.pairwise_cons.1 k).2
  | case9 x t y l hlt he hg ih =>
    intro h k
    have h' := List.pairwise_cons.1 h
    have k' := List.pairwise_cons.1 k
    have hyx : klt y.key x.1 = true := by rcases klt_tri x.1 y.key with q | q | q <;> first | exact absurd q hlt | exact absurd q he | exact q
    refine List.pairwise_cons.2 ⟨apply_low _ _ (fun z hz => ?_) k'.1, ih h k'.2⟩
    rcases List.mem_cons.1 hz with rfl | hz
    · exact hyx
    · exact klt_tr hyx (h'.1 z hz)
theorem val_apply (k : Blk) : ∀ (t : Tab) (l : List ChM), Rising t → RisingC l → val (applyM t l) k = chV l k (val t k) := by
  intro t l
  fun_induction applyM t l with
  | case1 => intro _ _; rfl
  | case2 x t => intro _ _; rfl
  | case3 y l hg ih =>
    intro h q
    have q' := List.pairwise_cons.1 q
    rw [ih h q'.2, chV_cons]
    split
    · rename_i e; subst e; rw [chV_low q'.1]; simp [hg, val_nil]
    · rfl
  | case4 y l hg ih =>
    intro h q
    have q' := List.pairwise_cons.1 q
    rw [val_cons, ih h q'.2, chV_cons]
    split
    · simp [hg]
    · rfl
  | case5 x t y l hlt ih =>
    intro h q
    have h' := List.pairwise_cons.1 h
    have q' := List.pairwise_cons.1 q
    rw [val_cons, ih h'.2 q, val_cons]
    split
    · rename_i e; subst e
      rw [chV_low fun z hz => by
        rcases List.mem_cons.1 hz with rfl | hz
        · exact hlt
        · exact klt_tr hlt (q'.1 z hz)]
    · rfl
  | case6 x t y l hlt he hg ih =>
    intro h q
    have h' := List.pairwise_cons.1 h
    have q' := List.pairwise_cons.1 q
    rw [ih h'.2 q'.2, val_cons, chV_cons, he]
    split
    · rename_i e; subst e; rw [chV_low q'.1, ← he]; simp [hg, val_low h'.1]
    · rfl
  | case7 x t y l hlt he hg ih =>
    intro h q
    have h' := List.pairwise_cons.1 h
    have q' := List.pairwise_cons.1 q
    rw [val_cons, ih h'.2 q'.2, val_cons, chV_cons, he]
    split
    · simp [hg]
    · rfl
  | case8 x t y l hlt he hg ih =>
    intro h q
    have h' := List.pairwise_cons.1 h
    have q' := List.pairwise_cons.1 q
    have hyx : klt y.key x.1 = true := by rcases klt_tri x.1 y.key with q | q | q <;> first | exact absurd q hlt | exact absurd q he | exact q
    rw [ih h q'.2, chV_cons]
    split
    · rename_i e; subst e
      rw [chV_low q'.1]
      exact val_low fun z hz => by
        rcases List.mem_cons.1 hz with rfl | hz
        · exact hyx
        · exact klt_tr hyx (h'.1 z hz)
    · rfl
  | case9 x t y l hlt he hg ih =>
    intro h q
    have q' := List.pairwise_cons.1 q
    rw [val_cons, ih h q'.2, chV_cons]
    split
    · simp [hg]
    · rfl
theorem between_low {k : Blk} : ∀ (a b : Tab), (∀ y ∈ a, klt k y.1 = true) → (∀ y ∈ b, klt k y.1 = true) → ∀ y ∈ betweenM a b, klt k y.key = true := by
  intro a b
  fun_induction betweenM a b with
  | case1 => intro _ _ z hz; cases hz
  | case2 x a ih =>
    intro h1 h2 z hz
    rcases List.mem_cons.1 hz with rfl | hz
    · exact h1 x (by simp)
    · exact ih (fun z hz => h1 z (by simp [hz])) h2 z hz
  | case3 y b ih =>
    intro h1 h2 z hz
    rcases List.mem_cons.1 hz with rfl | hz
    · exact h2 y (by simp)
    · exact ih h1 (fun z hz => h2 z (by simp [hz])) z hz
  | case4 x a y b hlt ih =>
    intro h1 h2 z hz
    rcases List.mem_cons.1 hz with rfl | hz
    · exact h1 x (by simp)
    · exact ih (fun z hz => h1 z (by simp [hz])) h2 z hz
  | case5 x a y b hlt he hv ih => intro h1 h2; exact ih (fun z hz => h1 z (by simp [hz])) fun z hz => h2 z (by simp [hz])
  | case6 x a y b hlt he hv ih =>
    intro h1 h2 z hz
    rcases List.mem_cons.1 hz with rfl | hz
    · exact h2 y (by simp)
    · exact ih (fun z hz => h1 z (by simp [hz])) (fun z hz => h2 z (by simp [hz])) z hz
  | case7 x a y b hlt he ih =>
    intro h1 h2 z hz
    rcases List.mem_cons.1 hz with rfl | hz
    · exact h2 y (by simp)
    · exact ih h1 (fun z hz => h2 z (by simp [hz])) z hz
theorem between_rising : ∀ (a b : Tab), Rising a → Rising b → RisingC (betweenM a b) := by
  intro a b
  fun_induction betweenM a b with
  | case1 => intro _ _; exact .nil
  | case2 x a ih => intro h k; have h' := List.pairwise_cons.1 h; exact List.pairwise_cons.2 ⟨between_low _ _ h'.1 (by simp), ih h'.2 k⟩
  | case3 y b ih => intro h k; have k' := List.pairwise_cons.1 k; exact List.pairwise_cons.2 ⟨between_low _ _ (by simp) k'.1, ih h k'.2⟩
  | case4 x a y b hlt ih =>
    intro h k
    have h' := List.pairwise_cons.1 h
    have k' := List.pairwise_cons.1 k
    refine List.pairwise_cons.2 ⟨between_low _ _ h'.1 (fun z hz => ?_), ih h'.2 k⟩
    rcases List.mem_cons.1 hz with rfl | hz
    · exact hlt
    · exact klt_tr hlt (k'.1 z hz)
  | case5 x a y b hlt he hv ih => intro h k; exact ih (List.pairwise_cons.1 h).2 (List.pairwise_cons.1 k).2
  | case6 x a y b hlt he hv ih =>
    intro h k
    have h' := List.pairwise_cons.1 h
    have k' := List.pairwise_cons.1 k
    exact List.pairwise_cons.2 ⟨between_low _ _ (by rw [← he]; exact h'.1) k'.1, ih h'.2 k'.2⟩
  | case7 x a y b hlt he ih =>
    intro h k
    have h' := List.pairwise_cons.1 h
    have k' := List.pairwise_cons.1 k
    have hyx : klt y.1 x.1 = true := by rcases klt_tri x.1 y.1 with q | q | q <;> first | exact absurd q hlt | exact absurd q he | exact q
    refine List.pairwise_cons.2 ⟨between_low _ _ (fun z hz => ?_) k'.1, ih h k'.2⟩
    rcases List.mem_cons.1 hz with rfl | hz
    · exact hyx
    · exact klt_tr hyx (h'.1 z hz)
/-- What is between two tables makes the first one the second one. -/
theorem apply_between : ∀ (a b : Tab), Rising a → Rising b → applyM a (betweenM a b) = b := by
  intro a b ra rb
  refine val_ext (apply_rising _ _ ra (between_rising _ _ ra rb)) rb fun k => ?_
  rw [val_apply k _ _ ra (between_rising _ _ ra rb)]
  revert ra rb
  fun_induction betweenM a b with
  | case1 => intro _ _; rfl
  | case2 x a ih =>
    intro h q
    have h' := List.pairwise_cons.1 h
    have := ih h'.2 q
    rw [chV_cons, val_cons]
    by_cases e : x.1 = k
    · simp [e, val_nil]
    · simpa [e] using this
  | case3 y b ih =>
    intro h q
    have q' := List.pairwise_cons.1 q
    have := ih h q'.2
    rw [chV_cons, val_cons]
    by_cases e : y.1 = k
    · simp [e]
    · simpa [e] using this
  | case4 x a y b hlt ih =>
    intro h q
    have h' := List.pairwise_cons.1 h
    have q' := List.pairwise_cons.1 q
    have := ih h'.2 q
    rw [chV_cons]
    by_cases e : x.1 = k
    · subst e
      simp only [if_true]
      exact (val_low fun z hz => by
        rcases List.mem_cons.1 hz with rfl | hz
        · exact hlt
        · exact klt_tr hlt (q'.1 z hz)).symm
    · rw [val_cons x, if_neg e, if_neg e]; exact this
  | case5 x a y b hlt he hv ih =>
    intro h q
    have h' := List.pairwise_cons.1 h
    have q' := List.pairwise_cons.1 q
    have := ih h'.2 q'.2
    rw [val_cons, val_cons, he, hv]
    split
    · rename_i e; subst e
      rw [chV_low (between_low _ _ (by rw [← he]; exact h'.1) q'.1)]
    · exact this
  | case6 x a y b hlt he hv ih =>
    intro h q
    have h' := List.pairwise_cons.1 h
    have q' := List.pairwise_cons.1 q
    have := ih h'.2 q'.2
    rw [chV_cons, val_cons y]
    by_cases e : y.1 = k
    · simp [e]
    · rw [val_cons, he, if_neg e, if_neg e, if_neg e]; exact this
  | case7 x a y b hlt he ih =>
    intro h q
    have q' := List.pairwise_cons.1 q
    have := ih h q'.2
    rw [chV_cons, val_cons y]
    by_cases e : y.1 = k
    · simp [e]
    · simpa [e] using this
/-- How many rows are unlike. -/
theorem length_between : ∀ (a b : Tab), Rising a → Rising b → (betweenM a b).length = (a.filter fun x => decide (val b x.1 ≠ some x.2)).length + (b.filter fun y => decide (val a y.1 = none)).length := by
  intro a b
  have off : ∀ (x : Blk × Blk) (a b : Tab), (∀ y ∈ b, x.1 ≠ y.1) → (b.filter fun y => decide (val (x :: a) y.1 = none)) = b.filter fun y => decide (val a y.1 = none) := fun x a b hn => by
    apply List.filter_congr
    intro y hy
    rw [val_cons, if_neg (hn y hy)]
  have off2 : ∀ (y : Blk × Blk) (a b : Tab), (∀ x ∈ a, y.1 ≠ x.1) → (a.filter fun x => decide (val (y :: b) x.1 ≠ some x.2)) = a.filter fun x => decide (val b x.1 ≠ some x.2) := fun y a b hn => by
    apply List.filter_congr
    intro x hx
    rw [val_cons, if_neg (hn x hx)]
  fun_induction betweenM a b with
  | case1 => intro _ _; rfl
  | case2 x a ih =>
    intro h q
    have := ih (List.pairwise_cons.1 h).2 q
    rw [List.filter_cons_of_pos (by simp [val_nil])]
    simp only [List.length_cons, List.filter_nil, List.length_nil] at this ⊢
    omega
  | case3 y b ih =>
    intro h q
    have := ih h (List.pairwise_cons.1 q).2
    rw [List.filter_cons_of_pos (l := b) (by simp [val_nil])]
    simp only [List.length_cons, List.filter_nil, List.length_nil] at this ⊢
    omega
  | case4 x a y b hlt ih =>
    intro h q
    have h' := List.pairwise_cons.1 h
    have q' := List.pairwise_cons.1 q
    have hlow : ∀ z ∈ y :: b, klt x.1 z.1 = true := fun z hz => by
      rcases List.mem_cons.1 hz with rfl | hz
      · exact hlt
      · exact klt_tr hlt (q'.1 z hz)
    have := ih h'.2 q
    rw [List.filter_cons_of_pos (l := a) (by simp [val_low hlow]), off x a (y :: b) (fun z hz => klt_ne (hlow z hz))]
    simp only [List.length_cons] at this ⊢
    omega
  | case5 x a y b hlt he hv ih =>
    intro h q
    have h' := List.pairwise_cons.1 h
    have q' := List.pairwise_cons.1 q
    have := ih h'.2 q'.2
    rw [List.filter_cons_of_neg (l := a) (by simp [val_cons, he, hv]), List.filter_cons_of_neg (l := b) (by simp [val_cons, he]), off x a b (fun z hz => by rw [he]; exact klt_ne (q'.1 z hz)), off2 y a b (fun z hz => by rw [← he]; exact klt_ne (h'.1 z hz))]
    exact this
  | case6 x a y b hlt he hv ih =>
    intro h q
    have h' := List.pairwise_cons.1 h
    have q' := List.pairwise_cons.1 q
    have := ih h'.2 q'.2
    rw [List.filter_cons_of_pos (l := a) (by simp [val_cons, he]; exact fun e => hv e.symm), List.filter_cons_of_neg (l := b) (by simp [val_cons, he]), off x a b (fun z hz => by rw [he]; exact klt_ne (q'.1 z hz)), off2 y a b (fun z hz => by rw [← he]; exact klt_ne (h'.1 z hz))]
    simp only [List.length_cons] at this ⊢
    omega
  | case7 x a y b hlt he ih =>
    intro h q
    have h' := List.pairwise_cons.1 h
    have q' := List.pairwise_cons.1 q
    have hyx : klt y.1 x.1 = true := by rcases klt_tri x.1 y.1 with q | q | q <;> first | exact absurd q hlt | exact absurd q he | exact q
    have hlow : ∀ z ∈ x :: a, klt y.1 z.1 = true := fun z hz => by
      rcases List.mem_cons.1 hz with rfl | hz
      · exact hyx
      · exact klt_tr hyx (h'.1 z hz)
    have := ih h q'.2
    rw [List.filter_cons_of_pos (l := b) (by simp [val_low hlow]), off2 y (x :: a) b (fun z hz => klt_ne (hlow z hz))]
    simp only [List.length_cons] at this ⊢
    omega
theorem apply_whole (b : Tab) (rb : Rising b) : applyM [] (betweenM [] b) = b := apply_between [] b .nil rb
end Go.Cx
namespace Go.Cx
/-! ### Batches -/
def rowB (b : Blk) : Blk := le 4 b.length ++ b
def chB (c : ChM) : Blk := rowB c.key ++ (if c.gone then [1] else 0 :: rowB c.val)
def putB (l : List ChM) : Blk := le 4 l.length ++ (l.map chB).flatten
structure ChM.ok (c : ChM) : Prop where
  k1 : 1 ≤ c.key.length
  k2 : c.key.length ≤ 16
  v : c.val.length ≤ 1048576
  g : c.gone = true → c.val = []
def MayC (l : List ChM) : Prop := RisingC l ∧ ∀ c ∈ l, c.ok
def rowAt (b : Blk) (at_ most : Nat) : Blk × Nat × Int :=
  if b.length < at_ then ([], 0, 2) else if b.length - at_ < 4 then ([], 0, 4)
  else if most < ofLe ((b.drop at_).take 4) then ([], 0, 3)
  else if b.length - (at_ + 4) < ofLe ((b.drop at_).take 4) then ([], 0, 4)
  else ((b.drop (at_ + 4)).take (ofLe ((b.drop at_).take 4)), at_ + 4 + ofLe ((b.drop at_).take 4), 0)
theorem rowAt_print {b r rest : Blk} {at_ most : Nat} (h0 : at_ ≤ b.length) (h : b.drop at_ = rowB r ++ rest) (hm : r.length ≤ most) (h4 : r.length < 4294967296) : rowAt b at_ most = (r, at_ + 4 + r.length, 0) := by
  have hl : b.length - at_ = 4 + r.length + rest.length := by
    have := congrArg List.length h
    simp [rowB] at this; omega
  have e : (b.drop at_).take 4 = le 4 r.length := by rw [h, rowB, List.append_assoc, List.take_append_of_le_length (by simp), List.take_of_length_le (by simp)]
  have e2 : b.drop (at_ + 4) = r ++ rest := by rw [← List.drop_drop, h, rowB, List.append_assoc, List.drop_append]; simp
  unfold rowAt
  rw [e, ofLe_le 4 _ h4, if_neg (by omega), if_neg (by omega), if_neg (by omega), if_neg (by omega), e2]
  simp
theorem rowAt_inv {b r : Blk} {at_ most nx : Nat} (h : rowAt b at_ most = (r, nx, 0)) : b.drop at_ = rowB r ++ b.drop nx ∧ nx = at_ + 4 + r.length ∧ nx ≤ b.length ∧ r.length ≤ most ∧ at_ ≤ b.length := by
  unfold rowAt at h
  split at h
  · simp at h
  split at h
  · simp at h
  split at h
  · simp at h
  split at h
  · simp at h
  rename_i h1 h2 h3 h4
  simp only [Prod.mk.injEq, and_true] at h
  obtain ⟨rfl, rfl⟩ := h
  have hl : ((b.drop (at_ + 4)).take (ofLe ((b.drop at_).take 4))).length = ofLe ((b.drop at_).take 4) := by simp; omega
  have f : le 4 (ofLe ((b.drop at_).take 4)) = (b.drop at_).take 4 := by
    have := le_ofLe ((b.drop at_).take 4)
    rwa [show ((b.drop at_).take 4).length = 4 by simp; omega] at this
  refine ⟨?_, by rw [hl], by omega, by rw [hl]; omega, by omega⟩
  rw [rowB, hl, f, List.append_assoc, ← List.drop_drop (i := ofLe _), List.take_append_drop, ← List.drop_drop, List.take_append_drop]
def oneB (b : Blk) (at_ : Nat) : ChM × Nat × Int :=
  if (rowAt b at_ 16).2.2 ≠ 0 then (⟨[], [], false⟩, 0, (rowAt b at_ 16).2.2)
  else if (rowAt b at_ 16).2.1 = b.length then (⟨[], [], false⟩, 0, 4)
  else match b.getD (rowAt b at_ 16).2.1 0 with
    | 1 => (⟨(rowAt b at_ 16).1, [], true⟩, (rowAt b at_ 16).2.1 + 1, 0)
    | 0 => (⟨(rowAt b at_ 16).1, (rowAt b ((rowAt b at_ 16).2.1 + 1) 1048576).1, false⟩, (rowAt b ((rowAt b at_ 16).2.1 + 1) 1048576).2)
    | _ => (⟨(rowAt b at_ 16).1, [], false⟩, 0, 5)
theorem chB_len (c : ChM) (h : c.ok) : (chB c).length = 4 + c.key.length + (if c.gone then 1 else 5 + c.val.length) := by
  unfold chB; split <;> simp [rowB] <;> omega
theorem one_print {b rest : Blk} {c : ChM} {at_ : Nat} (h0 : at_ ≤ b.length) (h : b.drop at_ = chB c ++ rest) (o : c.ok) : oneB b at_ = (c, at_ + (chB c).length, 0) := by
  have h1 := o.k2
  have h2 := o.v
  have hr : rowAt b at_ 16 = (c.key, at_ + 4 + c.key.length, 0) := rowAt_print h0 (by rw [h, chB, List.append_assoc]) h1 (by omega)
  have hl : b.length - at_ = (chB c).length + rest.length := by
    have := congrArg List.length h
    simp at this; omega
  have hc := chB_len c o
  have hd : b.drop (at_ + 4 + c.key.length) = (if c.gone then [1] else 0 :: rowB c.val) ++ rest := by
    rw [show at_ + 4 + c.key.length = at_ + (rowB c.key).length by simp [rowB]; omega, ← List.drop_drop, h, chB, List.append_assoc, List.drop_append]; simp
  unfold oneB
  rw [hr]
  dsimp only
  rw [if_neg (by simp), if_neg (by split at hc <;> omega)]
  have hg : b.getD (at_ + 4 + c.key.length) 0 = ((if c.gone then [1] else 0 :: rowB c.val) ++ rest).getD 0 0 := by
    rw [← hd]; simp [List.getD_eq_getElem?_getD]
  obtain ⟨key, v, gone⟩ := c
  dsimp only at *
  cases gone with
  | true =>
    have e : v = [] := o.g rfl
    
    simp only [if_true, List.cons_append, List.nil_append, List.getD_cons_zero] at hg hc
    rw [hg]
    subst e
    simp [hc]; omega
  | false =>
    simp only [if_false, Bool.false_eq_true, List.cons_append, List.getD_cons_zero] at hg hc hd
    rw [hg]
    have hd2 : b.drop (at_ + 4 + key.length + 1) = rowB v ++ rest := by rw [← List.drop_drop, hd]; rfl
    have hs := rowAt_print (b := b) (r := v) (rest := rest) (at_ := at_ + 4 + key.length + 1) (most := 1048576) (by omega) hd2 h2 (by omega)
    simp [hs, hc]; omega
theorem one_inv {b : Blk} {c : ChM} {at_ nx : Nat} (h : oneB b at_ = (c, nx, 0)) (hk : c.key ≠ []) : b.drop at_ = chB c ++ b.drop nx ∧ nx ≤ b.length ∧ c.ok ∧ at_ ≤ b.length ∧ at_ < nx := by
  unfold oneB at h
  split at h
  · rename_i hc; simp at h; omega
  rename_i hc
  split at h
  · simp at h
  rename_i hn
  rcases hr : rowAt b at_ 16 with ⟨r, nr, er⟩
  rw [hr] at h hc hn
  dsimp only at h hc hn
  obtain rfl : er = 0 := Decidable.byContradiction hc
  obtain ⟨q1, q2, q3, q4, q5⟩ := rowAt_inv hr
  have hd : b.drop nr = b.getD nr 0 :: b.drop (nr + 1) := by
    rw [List.drop_eq_getElem_cons (by omega)]; simp [List.getD_eq_getElem?_getD, show nr < b.length by omega]
  have hk1 : r ≠ [] → 1 ≤ r.length := fun e => by cases r with | nil => exact absurd rfl e | cons => simp
  split at h
  · rename_i e1
    simp only [Prod.mk.injEq, and_true] at h
    obtain ⟨rfl, rfl⟩ := h
    refine ⟨?_, by omega, ⟨hk1 hk, q4, by simp, by simp⟩, q5, by omega⟩
    rw [q1, hd, e1, chB]; simp
  · rename_i e1
    simp only [Prod.mk.injEq] at h
    obtain ⟨rfl, h⟩ := h
    rcases hs : rowAt b (nr + 1) 1048576 with ⟨s, ns, es⟩
    rw [hs] at h
    dsimp only at hk ⊢
    obtain ⟨rfl, rfl⟩ := Prod.mk.inj h
    obtain ⟨p1, p2, p3, p4, p5⟩ := rowAt_inv hs
    refine ⟨?_, p3, ⟨hk1 hk, q4, p4, by simp⟩, q5, by omega⟩
    rw [q1, hd, e1, p1, chB]; simp
  · simp at h
theorem rising_snoc {l : List ChM} {x : ChM} (h : RisingC l) (k : ∀ y, l.getLast? = some y → klt y.key x.key = true) : RisingC (l ++ [x]) := by
  unfold RisingC at *
  rw [List.pairwise_append]
  refine ⟨h, by simp, fun y hy z hz => ?_⟩
  obtain rfl : z = x := by simpa using hz
  rcases List.eq_nil_or_concat l with rfl | ⟨m, w, rfl⟩
  · cases hy
  · rw [List.concat_eq_append] at *
    have hw := k w (by simp)
    rcases List.mem_append.1 hy with hy | hy
    · exact klt_tr ((List.pairwise_append.1 h).2.2 y hy w (by simp)) hw
    · obtain rfl : y = w := by simpa using hy
      exact hw
/-- Does a change fit behind others? -/
def fits (l : List ChM) (x : ChM) : Bool := (match l.getLast? with | some y => klt y.key x.key | none => true) && !x.key.isEmpty
def loopB (b : Blk) : Nat → List ChM → Nat → List ChM × Int
  | 0, l, at_ => if at_ ≠ b.length then ([], 5) else (l, 0)
  | k + 1, l, at_ =>
    if (oneB b at_).2.2 ≠ 0 then ([], (oneB b at_).2.2)
    else if fits l (oneB b at_).1 = false then ([], 5)
    else loopB b k (l ++ [(oneB b at_).1]) (oneB b at_).2.1
def getB (b : Blk) : List ChM × Int := if b.length < 4 then ([], 4) else loopB b (ofLe (b.take 4)) [] 4
theorem fits_iff {l : List ChM} {x : ChM} : fits l x = true ↔ (∀ y, l.getLast? = some y → klt y.key x.key = true) ∧ x.key ≠ [] := by
  unfold fits
  cases h : l.getLast? <;> simp
theorem loop_print {b : Blk} : ∀ (m l : List ChM) (at_ : Nat), at_ ≤ b.length → b.drop at_ = (m.map chB).flatten → RisingC (l ++ m) → (∀ c ∈ m, c.ok) → loopB b m.length l at_ = (l ++ m, 0) := by
  intro m
  induction m with
  | nil =>
    intro l at_ h0 h _ _
    have : at_ = b.length := by
      have := congrArg List.length h
      simp at this; omega
    simp [loopB, this]
  | cons x m ih =>
    intro l at_ h0 h hr ho
    have o := ho x (by simp)
    have h1 : b.drop at_ = chB x ++ (m.map chB).flatten := by simpa using h
    have hp := one_print h0 h1 o
    have hl : b.length - at_ = (chB x).length + ((m.map chB).flatten).length := by
      have := congrArg List.length h1
      simp at this ⊢; omega
    have hf : fits l x = true := fits_iff.2 ⟨fun y hy => (List.pairwise_append.1 hr).2.2 y (List.mem_of_getLast? hy) x (by simp), fun e => by have := o.k1; rw [e] at this; simp at this⟩
    simp only [List.length_cons, loopB]
    rw [hp]
    dsimp only
    rw [if_neg (by simp), if_neg (by simp [hf]), ih (l ++ [x]) _ (by omega) (by rw [← List.drop_drop, h1, List.drop_append]; simp) (by simpa using hr) (fun c hc => ho c (by simp [hc]))]
    simp
theorem loop_inv {b : Blk} : ∀ (k : Nat) (l : List ChM) (at_ : Nat) (r : List ChM), loopB b k l at_ = (r, 0) → at_ ≤ b.length → RisingC l → (∀ c ∈ l, c.ok) → ∃ m, r = l ++ m ∧ m.length = k ∧ b.drop at_ = (m.map chB).flatten ∧ MayC r := by
  intro k
  induction k with
  | zero =>
    intro l at_ r h h0 hr ho
    simp only [loopB] at h
    split at h
    · simp at h
    rename_i hc
    simp only [Prod.mk.injEq, and_true] at h
    subst h
    exact ⟨[], by simp, rfl, by simp [show at_ = b.length by omega], hr, ho⟩
  | succ k ih =>
    intro l at_ r h h0 hr ho
    simp only [loopB] at h
    split at h
    · rename_i hc; simp at h; omega
    rename_i hc
    split at h
    · simp at h
    rename_i hf
    have hf' : fits l (oneB b at_).1 = true := by simpa using hf
    rcases hx : oneB b at_ with ⟨x, nx, e⟩
    rw [hx] at h hc hf'
    dsimp only at h hc hf'
    obtain rfl : e = 0 := Decidable.byContradiction hc
    have f := fits_iff.1 hf'
    obtain ⟨q1, q2, q3, q4, q5⟩ := one_inv hx f.2
    obtain ⟨m, rfl, h2, h3, h4⟩ := ih (l ++ [x]) nx r h q2 (rising_snoc hr f.1) (fun c hc => by
      rcases List.mem_append.1 hc with hc | hc
      · exact ho c hc
      · obtain rfl : c = x := by simpa using hc
        exact q3)
    exact ⟨x :: m, by simp, by simp [h2], by rw [q1, h3]; simp, by simpa using h4⟩
theorem get_putB {l : List ChM} (h : MayC l) (hl : l.length < 4294967296) : getB (putB l) = (l, 0) := by
  have e : (putB l).take 4 = le 4 l.length := by rw [putB, List.take_append_of_le_length (by simp), List.take_of_length_le (by simp)]
  unfold getB
  rw [if_neg (by simp [putB]), e, ofLe_le 4 _ hl]
  have := loop_print (b := putB l) l [] 4 (by simp [putB]) (by simp [putB]) (by simpa using h.1) h.2
  simpa using this
theorem put_getB {b : Blk} {l : List ChM} (h : getB b = (l, 0)) : MayC l ∧ putB l = b ∧ l.length < 4294967296 := by
  unfold getB at h
  split at h
  · simp at h
  rename_i h4
  obtain ⟨m, rfl, h2, h3, h5⟩ := loop_inv _ [] 4 l h (by omega) .nil (by simp)
  have f : le 4 (ofLe (b.take 4)) = b.take 4 := by
    have := le_ofLe (b.take 4)
    rwa [show (b.take 4).length = 4 by simp; omega] at this
  have hlt := ofLe_lt (b.take 4)
  rw [show (b.take 4).length = 4 by simp; omega] at hlt
  refine ⟨h5, ?_, by omega⟩
  rw [putB, h2, f, ← h3, List.take_append_drop]
end Go.Cx
