/- Stepping through a region whose order is open. No program in sight. -/
import Derived.Test.YtlckhaodecdbbaaCo
import Derived.OrdersHeld
import Derived.Deep.RegionHeld3
set_option linter.unusedSimpArgs false
set_option linter.unusedVariables false
namespace Go.Cx

section
variable {P : Program} {ops : Array Oper} {Q : Exit → Act → World → Prop} {S : World → Prop} {T : Nat → Bool}

/-- Whatever order is picked from here on; every operation but those of T keeps S. -/
def wpAnyT (P : Program) (ops : Array Oper) (Q : Exit → Act → World → Prop) (S : World → Prop) (T : Nat → Bool) : Nat → Array Bool → Act → World → Prop
  | 0, listed, a, w => Region.ready .any ops listed = [] ∧ Q .normal a w
  | fuel + 1, listed, a, w =>
    (Region.ready .any ops listed = [] → Q .normal a w) ∧
    ∀ i ∈ Region.ready .any ops listed, wpOp P ops Q i (fun a' w' => (T i = false → S w → S w') ∧ wpAnyT P ops Q S T fuel (listed.setIfInBounds i true) a' w') a w

theorem wpAny_of_T : ∀ (fuel : Nat) (listed : Array Bool) (a : Act) (w : World), wpAnyT P ops Q S T fuel listed a w → wpAny P .any ops Q fuel listed a w
  | 0, _, _, _, h => h
  | fuel + 1, _, _, _, h => ⟨h.1, fun i hi => wpOp_mono (fun a' w' h' => wpAny_of_T fuel _ a' w' h'.2) (h.2 i hi)⟩

/-- In which worlds an operation must yield its value: any, or those that meet S. -/
def Cls (S : World → Prop) (rd : Bool) (w : World) : Prop := rd = true → S w

theorem wpAnyT_first {i : Nat} {oi : Oper} {v : Value} {rd : Bool} (hi : ops[i]? = some oi) (hsel : ∀ (j : Nat) (o : Oper) cs b, ops[j]? = some o → o.op ≠ .select cs b)
    (hQ : ∀ c a w, Q (.panic c) (a.put oi.dst v) w → Q (.panic c) a w)
    (hT : rd = true → ∀ j oj, ops[j]? = some oj → T j = true → ∃ e ∈ oj.after, Region.binds .any e = true ∧ e.on = i) :
    ∀ (fuel : Nat) (listed : Array Bool) (a : Act) (w : World),
      (∀ j oj, ops[j]? = some oj → j ≠ i → listed.getD j true = false → (∀ e ∈ oj.after, Region.binds .any e = true → e.on ≠ i) → oi.apart ops oj = true) →
      i ∈ Region.ready .any ops listed → YieldsIf P ops (Cls S rd) oi v a → Cls S rd w →
      wpAnyT P ops Q S T fuel (listed.setIfInBounds i true) (a.put oi.dst v) w → wpAnyT P ops Q S T (fuel + 1) listed a w := by
  intro fuel
  induction fuel with
  | zero =>
    intro listed a w _ hr hy hS H
    refine ⟨fun h => (by rw [h] at hr; cases hr), fun j hj => ?_⟩
    by_cases hji : j = i
    · subst hji; exact hy.wpOp hi hS ⟨fun _ h => h, H⟩
    · have := ready_mono hj hji
      rw [H.1] at this
      cases this
  | succ fuel ih =>
    intro listed a w hfree hr hy hS H
    refine ⟨fun h => (by rw [h] at hr; cases hr), fun j hj => ?_⟩
    by_cases hji : j = i
    · subst hji; exact hy.wpOp hi hS ⟨fun _ h => h, H⟩
    · have h1 := H.2 j (ready_mono hj hji)
      obtain ⟨hjun, oj, hoj, hall⟩ := mem_ready.1 hj
      have hnot : ∀ e ∈ oj.after, Region.binds .any e = true → e.on ≠ i := fun e he hb heq => by
        have h1 := hall e he hb
        have h0 := (mem_ready.1 hr).1
        rw [heq] at h1
        rcases Nat.lt_or_ge i listed.size with h' | h'
        · simp [h'] at h0 h1; rw [h0] at h1; cases h1
        · simp [Array.getElem?_eq_none h'] at h1
      have hTj : rd = true → T j = false := fun hrd => by
        cases hT' : T j with
        | false => rfl
        | true =>
          obtain ⟨e, he, hb, hon⟩ := hT hrd j oj hoj hT'
          exact absurd hon (hnot e he hb)
      have h2 := wpOp_putIf hoj (hfree j oj hoj hji hjun hnot) (fun cs b => hsel i oi cs b hi) (fun cs b => hsel j oj cs b hoj) hQ hy h1
      have hfree' : ∀ k ok, ops[k]? = some ok → k ≠ i → (listed.setIfInBounds j true).getD k true = false →
          (∀ e ∈ ok.after, Region.binds .any e = true → e.on ≠ i) → oi.apart ops ok = true := fun k ok hk hki hun hno => by
        refine hfree k ok hk hki ?_ hno
        by_cases hjk : j = k
        · subst hjk; exact hjun
        · rw [getD_set_ne true hjk] at hun; exact hun
      refine wpOp_mono (fun a' w' h3 => ⟨h3.2.1, ih (listed.setIfInBounds j true) a' w' hfree' (ready_mono hr (Ne.symm hji)) h3.1 (fun hrd => h3.2.1 (hTj hrd) (hS hrd)) ?_⟩) h2
      rw [Array.setIfInBounds_comm _ _ hji]
      exact h3.2.2
end

/-- What the operations of an order are: 0: it reckons only; 1: it reads; 2: it acts, and what is read stays; 3: it acts behind all that is read. -/
abbrev Order := List (Nat × Nat)
def tails (s : Order) (i : Nat) : Bool := s.contains (i, 3)
/-- Is this an order in which the region may be walked? -/
def ordB (ops : Array Oper) (T : Nat → Bool) : Order → Array Bool → Bool
  | [], listed => (Region.ready .any ops listed).isEmpty
  | (i, k) :: s, listed =>
    (if k ≤ 1 then (Region.ready .any ops listed).contains i && Region.free .any ops listed i &&
        (k == 0 || (List.range ops.size).all fun j => !T j || ((ops[j]?).map fun oj => oj.after.any fun e => Region.binds .any e && e.on == i).getD true)
      else Region.ready .any ops listed == [i] && (k == 3 || !T i)) && ordB ops T s (listed.setIfInBounds i true)

def CH (P : Program) (ops : Array Oper) (Q : Exit → Act → World → Prop) (n : Nat) (e0 : World) (T : Nat → Bool) (R : List Assn) (env : Env) (L : List Assn) (s : Order) : Prop :=
  Region.noSelect ops = true → ∀ listed, ordB ops T s listed = true → ∀ a w, Fr n env a → Sep L w.ph → Env0 e0 w → wpAnyT P ops (NoPanic Q) (fun w => Sep R w.ph) T s.length listed a w

section
variable {P : Program} {ops : Array Oper} {Q : Exit → Act → World → Prop} {n : Nat} {e0 : World} {env : Env} {L R : List Assn} {s : Order} {T : Nat → Bool}
variable {dst : Option Tmp} {ty : TypeId} {pos : String} {aft : Array Edge} {g : Option (Nat × Bool)} {op : Op}

theorem CH.nil (h : CQ (Q .normal) n e0 env L) : CH P ops Q n e0 T R env L [] := fun hsel listed hB a w hf hs he => by
  refine ⟨?_, h a w hf hs he⟩
  simpa [ordB] using hB

theorem CH.pure {i : Nat} {v : Value} (ho : ops[i]? = some ⟨dst, op, ty, pos, aft, g⟩) (hp : PS P ops n env [] ⟨dst, op, ty, pos, aft, g⟩ v)
    (h : CH P ops Q n e0 T R (putE env dst v) L s) : CH P ops Q n e0 T R env L ((i, 0) :: s) := fun hsel listed hB a w hf hs he => by
  simp only [ordB, Nat.zero_le, if_true, Bool.and_eq_true] at hB
  exact wpAnyT_first (rd := false) ho (Region.noSelect_spec hsel) (fun _ _ _ h => h.elim) (fun h => by cases h) _ _ _ _ (Region.free_spec ho hB.1.1.2) (by simpa using hB.1.1.1)
    (.inl ⟨gd_wanted hf hp.1, fun w' hs' => hp.2 a w' hf trivial⟩) (fun h => by cases h) (h hsel _ hB.2 _ _ (hf.put dst v) hs he)

theorem CH.read {i : Nat} {v : Value} {M : List Assn} (ho : ops[i]? = some ⟨dst, op, ty, pos, aft, g⟩) (hp : PS P ops n env R ⟨dst, op, ty, pos, aft, g⟩ v) (hr : Sel L R M)
    (h : CH P ops Q n e0 T R (putE env dst v) L s) : CH P ops Q n e0 T R env L ((i, 1) :: s) := fun hsel listed hB a w hf hs he => by
  simp only [ordB, Nat.le_refl, if_true, Bool.and_eq_true, Bool.or_eq_true, List.all_eq_true] at hB
  refine wpAnyT_first (rd := true) ho (Region.noSelect_spec hsel) (fun _ _ _ h => h.elim) (fun _ j oj hj hTj => ?_) _ _ _ _ (Region.free_spec ho hB.1.1.2) (by simpa using hB.1.1.1)
    (.inl ⟨gd_wanted hf hp.1, fun w' hs' => hp.2 a w' hf (hs' rfl)⟩) (fun _ => (hr.sep hs).left) (h hsel _ hB.2 _ _ (hf.put dst v) hs he)
  rcases hB.1.2 with h1 | h1
  · simp at h1
  · have := h1 j (by simpa using (Array.getElem?_eq_some_iff.1 hj).1)
    simp only [hTj, Bool.not_true, Bool.false_or, hj, Option.map_some, Option.getD_some, Array.any_eq_true', Bool.and_eq_true, beq_iff_eq] at this
    rcases this with h2 | h2
    · cases h2
    · exact h2

theorem CH.skip {i : Nat} {k : Nat} (hk : Nat.ble k 1 = true) (ho : ops[i]? = some ⟨dst, op, ty, pos, aft, g⟩) (hg : gd ops n env g = some false)
    (h : CH P ops Q n e0 T R (putE env dst undef) L s) : CH P ops Q n e0 T R env L ((i, k) :: s) := fun hsel listed hB a w hf hs he => by
  have hk' := Nat.le_of_ble_eq_true hk
  simp only [ordB, hk', if_true, Bool.and_eq_true] at hB
  have hw : Region.wanted (⟨dst, op, ty, pos, aft, g⟩ : Oper) (yielded ops a.tmps) = false := gd_wanted hf hg
  exact wpAnyT_first (rd := false) ho (Region.noSelect_spec hsel) (fun _ _ _ h => h.elim) (fun h => by cases h) _ _ _ _ (Region.free_spec ho hB.1.1.2) (by simpa using hB.1.1.1)
    (.inr ⟨hw, rfl⟩) (fun h => by cases h) (h hsel _ hB.2 _ _ (hf.put dst undef) hs he)

theorem CH.skipC {i : Nat} {k : Nat} (hk : Nat.ble k 1 = false) (ho : ops[i]? = some ⟨dst, op, ty, pos, aft, g⟩) (hg : gd ops n env g = some false)
    (h : CH P ops Q n e0 T R (putE env dst undef) L s) : CH P ops Q n e0 T R env L ((i, k) :: s) := fun hsel listed hB a w hf hs he => by
  have hk' : ¬ k ≤ 1 := fun h => by have := Nat.ble_eq_true_of_le h; rw [hk] at this; cases this
  simp only [ordB, hk', if_false, Bool.and_eq_true, beq_iff_eq] at hB
  have hw : Region.wanted (⟨dst, op, ty, pos, aft, g⟩ : Oper) (yielded ops a.tmps) = false := gd_wanted hf hg
  refine ⟨fun h0 => (by rw [hB.1.1] at h0; cases h0), fun j hj => ?_⟩
  rw [hB.1.1] at hj
  obtain rfl : j = i := by simpa using hj
  simp only [wpOp, ho, hw, Bool.false_eq_true, if_false]
  exact ⟨fun _ h => h, h hsel _ hB.2 _ _ (hf.put dst undef) hs he⟩

theorem CH.act {i k : Nat} {o : Oper} (hk : Nat.ble k 1 = false) (ho : ops[i]? = some o) (G : List Assn → Prop) (hG : ∀ L', G L' → (T i = false → ∃ M, Sel L' R M))
    (h : ∀ K : Act → World → Prop, (∀ env' L', G L' → CH P ops Q n e0 T R env' L' s → CQ K n e0 env' L') → CX P ops (Exit.then K (NoPanic Q)) n e0 env L [o]) :
    CH P ops Q n e0 T R env L ((i, k) :: s) := fun hsel listed hB a w hf hs he => by
  have hk' : ¬ k ≤ 1 := fun h => by have := Nat.ble_eq_true_of_le h; rw [hk] at this; cases this
  simp only [ordB, hk', if_false, Bool.and_eq_true, beq_iff_eq] at hB
  refine ⟨fun h0 => (by rw [hB.1.1] at h0; cases h0), fun j hj => ?_⟩
  rw [hB.1.1] at hj
  obtain rfl : j = i := by simpa using hj
  have := h (fun a' w' => (T j = false → Sep R w.ph → Sep R w'.ph) ∧ wpAnyT P ops (NoPanic Q) (fun w => Sep R w.ph) T s.length (listed.setIfInBounds j true) a' w')
    (fun env' L' hg hch a' w' hf' hs' he' => ⟨fun hTj _ => (by obtain ⟨M, hsel2⟩ := hG L' hg hTj; exact (hsel2.sep hs').left), hch hsel _ hB.2 a' w' hf' hs' he'⟩) a w hf hs he
  simp only [wpOp, ho]
  unfold wpList at this
  split at this
  · rename_i hw
    simp only [hw, if_true]
    rcases this with h1 | ⟨h1, a0, w0, h2⟩
    · refine .inl ?_
      unfold Oper.wp at *
      generalize (execOp a.eval o).run P w = r at *
      cases r with
      | ok x w' =>
        cases x <;> simp only [Oper.upon] at h1 ⊢ <;> first
          | exact h1
          | exact h1.elim
          | exact Calls.mono h1 (fun e w'' h3 => by cases e <;> exact h3)
          | exact Rows.mono h1 (fun _ _ h3 => h3)
      | halt x w' => cases x <;> simp only [Oper.upon] at h1 ⊢ <;> exact h1
    · exact .inr ⟨h1, a0, w0, h2⟩
  · rename_i hw
    simp only [hw, if_false, Bool.false_eq_true]
    exact this

/-- It acts, and what is read stays. -/
theorem CH.chain {i : Nat} {o : Oper} (ho : ops[i]? = some o)
    (h : ∀ K : Act → World → Prop, (∀ env' L' M, Sel L' R M → CH P ops Q n e0 T R env' L' s → CQ K n e0 env' L') → CX P ops (Exit.then K (NoPanic Q)) n e0 env L [o]) :
    CH P ops Q n e0 T R env L ((i, 2) :: s) :=
  CH.act rfl ho (fun L' => ∃ M, Sel L' R M) (fun _ h _ => h) fun K hK => h K fun env' L' M hs hc => hK env' L' ⟨M, hs⟩ hc
/-- It acts behind all that is read. -/
theorem CH.tail {i : Nat} {o : Oper} (ho : ops[i]? = some o) (hT : T i = true)
    (h : ∀ K : Act → World → Prop, (∀ env' L', CH P ops Q n e0 T R env' L' s → CQ K n e0 env' L') → CX P ops (Exit.then K (NoPanic Q)) n e0 env L [o]) :
    CH P ops Q n e0 T R env L ((i, 3) :: s) :=
  CH.act rfl ho (fun _ => True) (fun _ _ h => by rw [hT] at h; cases h) fun K hK => h K fun env' L' hc => hK env' L' trivial hc

theorem CQ.thenK {K : Act → World → Prop} {Q' : Exit → Act → World → Prop} (h : CQ K n e0 env L) : CQ (Exit.then K Q' .normal) n e0 env L := h

theorem CC.draw {id : Nat} {l : List Oper} (s : Order) (hm : P.follows .mixedOrders = true) (hl : l.length = s.length) (hB : ordB l.toArray (tails s) s (Array.replicate l.length false) = true)
    (hns : Region.noSelect l.toArray = true) (R : List Assn) (h : CH P l.toArray Q n e0 (tails s) R env L s) : CC P (.region id l.toArray true) Q n e0 env L := fun a w hf hs he => by
  refine wp_region_noPanic (wp_region_any hm (wpAny_of_T (S := fun w => Sep R w.ph) (T := tails s) _ _ _ _ ?_))
  have := h hns (Array.replicate l.length false) hB a { w with drawn := w.drawn + 1 } hf hs (he.trans ⟨rfl, rfl, rfl⟩)
  simpa [hl] using this
end
end Go.Cx
